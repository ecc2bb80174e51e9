/- LiftAsks: what is asked of a net, and that its models are just those. No conditions. -/
import Derived.Test.YteidpnpbfagaeaaRows
import Derived.Lib.SmallJoins
import Derived.KernelRfl
import Derived.WalkKit
import Derived.ProofKit
import Derived.Deep.Quiet
import Derived.Deep.LoopGhost
import Derived.StillTail
import Derived.Test.YteidpnpbfagaeaaProg
import Derived.OpenShut
import Derived.ShutString
import Derived.ChangeOld
import Derived.Deep.Slices
import Derived.SizedLaws
import Derived.Laws.StructEq
import Derived.Laws.Externs
import Derived.MapKept
import Derived.Test.YteidpnpbfagaeaaLiftAsksP5
namespace Go.Proofs.Yteidpnpbfagaeaa
open Go Go.Lt Go.RowKit
set_option linter.unusedVariables false
set_option linter.unusedSimpArgs false
set_option maxRecDepth 20000

set_option maxHeartbeats 8000000 in
theorem rs_AndLe (gs cap : Nat) (a : Option Addr) (N : List (Int × Int)) (x y : Int) (rest : List Piece) (w w0 : World) (hX : Ext w0 w) (hS : Sep w0.heap.size w (rsN w0.heap.size gs a cap N ++ rest)) (hN : N.length < 1048576) (hxy : x ≤ y) :
    Lt.Spec Try.prog 119 [.pointer (some ⟨gs, 0, none⟩), .int .i64 x, .int .i64 y] w (AtRs w0 gs rest (andV N x y)) := by
  have hR1 := hS.row (i := 1) rfl
  have RN := Own.row encN_ok hR1
  have hC0 := hS.cell (i := 0) rfl
  obtain ⟨hD0, _⟩ := cells_heap hC0
  by_cases hx : hasL N x
  · by_cases hy : hasL N y
    · have hx' : 0 ≤ x ∧ x < 2 * ((N.length : Int) + 1) := hx
      have hy' : 0 ≤ y ∧ y < 2 * ((N.length : Int) + 1) := hy
      obtain ⟨g1, g2, g3, g4⟩ := andV_comm_ways hx hy
      refine Spec.of _ Try.func119 rfl Try.ntmps119 (by kernel_rfl) rfl ?_
      repeat' (first
        | ((show WL _ _ _ (⟨_, .call ⟨.value (.func 118), _, _⟩, _, _, _, _⟩ :: _) _ _ _); apply WL.callS; (iterate 4 exact rfl); exact rs_Has gs cap a N x _ hC0 (by omega))
        | ((show WL _ _ _ (⟨_, .call ⟨.value (.func 118), _, _⟩, _, _, _, _⟩ :: _) _ _ _); apply WL.callS; (iterate 4 exact rfl); exact rs_Has gs cap a N y _ hC0 (by omega))
        | ((show WL _ _ _ (⟨_, .call ⟨.value (.func 69), _, _⟩, _, _, _, _⟩ :: _) _ _ _); apply WL.callS; (iterate 4 exact rfl); exact rs_Not y _ (by omega))
        | (apply WL.gF; exact rfl; exact rfl; (focus (first | (rw [dec_true hx]; rfl) | (rw [dec_true hy]; rfl) | exact dec_false (by omega); done)))
        | (apply W.condKF; exact rfl; (focus (first | (rw [dec_true hx]; rfl) | (rw [dec_true hy]; rfl) | exact dec_false (by omega); done)))
        | (show WL _ _ _ _ _ _ _; first | apply WL.nil | (refine WL.au (k := ?_)) | (apply WL.guardF; exact rfl; exact rfl) | (apply WL.gD; exact rfl; exact rfl; all_goals intro _))
        | (show Z _ _ _ _ _; first | apply Z.then_normal | apply Z.then_ret)
        | (show W _ _ _ _ _ _; first | apply W.seq | apply W.region | apply W.block | apply W.skip | apply W.ret | (apply W.condT; exact rfl) | (apply W.condD; exact rfl; all_goals intro _))
        | fail)
      all_goals first
        | (rw [g1 (by omega)]; exact Z.body1 Try.results119 rfl fun m => ⟨hX.at m, a, cap, rfl, hS.ext ((Ext.refl _).at m)⟩)
        | (rw [g2 (by omega) (by omega)]; exact Z.body1 Try.results119 rfl fun m => ⟨hX.at m, a, cap, rfl, hS.ext ((Ext.refl _).at m)⟩)
        | (rw [g3 (by omega) (by omega) (by omega)]; exact Z.body1 Try.results119 rfl fun m => ⟨hX.at m, a, cap, rfl, hS.ext ((Ext.refl _).at m)⟩)
        | skip
      have g5 := g4 (by omega) (by omega) (by omega) x y (by omega) (by omega)
      refine W.loop1 N.length (fun k => k ≤ N.length ∧ ∀ j : Nat, j < k → N[j]? ≠ some (x, y)) (fun k => [(0, .pointer (some ⟨gs, 0, none⟩)), (1, .int .i64 x), (2, .int .i64 y), (7, .int .i64 k)]) ⟨by omega, fun j h => by omega⟩ (fun k h => h.1) ⟨rfl, rfl, rfl, rfl, trivial⟩ ?_
      rintro k ⟨hk, hno⟩
      by_cases hlt : k < N.length
      · obtain ⟨z, hz⟩ := getI N hlt
        by_cases z1 : z.1 = x
        · by_cases z2 : z.2 = y
          · have hzp : z = (x, y) := Prod.ext z1 z2
            rw [g5.1 k (by rw [hz, hzp]) hno]
            repeat' (first
              | (apply WL.nilc; (iterate 3 exact rfl))
              | (apply WL.gT; exact rfl; exact rfl; (focus (first | exact dec_true (by omega) | exact dec_true z1 | exact dec_true z2; done)))
              | (apply W.condKT; exact rfl; (focus (first | exact dec_true (by omega) | exact dec_true z1 | exact dec_true z2; done)))
              | (show WL _ _ _ _ _ _ _; first | apply WL.nil | (refine WL.au (k := ?_)) | (apply WL.index tOk; (iterate 8 exact rfl); assumption; (exact extA); exact rfl; omega; assumption; intro b off h; have hcc := h; first | (obtain ⟨h1, h2, h3, h4, h5, h6, _⟩ := h) | (obtain ⟨h1, h2, h3, _⟩ := h) | (obtain ⟨h1, h2, _⟩ := h) | (obtain ⟨h1, _⟩ := h)))
              | (show Z _ _ _ _ _; first | apply Z.then_normal | apply Z.then_ret | apply Z.block_ret)
              | (show W _ _ _ _ _ _; first | apply W.seq | apply W.region | apply W.block | apply W.skip | apply W.ret)
              | fail)
            exact Z.body1 Try.results119 rfl fun m => ⟨hX.at m, a, cap, rfl, hS.ext ((Ext.refl _).at m)⟩
          · repeat' (first
              | (apply WL.nilc; (iterate 3 exact rfl))
              | (apply WL.gT; exact rfl; exact rfl; (focus (first | exact dec_true (by omega) | exact dec_true z1 | exact dec_false z2; done)))
              | (apply W.condKT; exact rfl; (focus (first | exact dec_true (by omega) | exact dec_true z1 | exact dec_false z2; done)))
              | (apply W.condKF; exact rfl; (focus (first | exact dec_true (by omega) | exact dec_true z1 | exact dec_false z2; done)))
              | (show WL _ _ _ _ _ _ _; first | apply WL.nil | (refine WL.au (k := ?_)) | (apply WL.index tOk; (iterate 8 exact rfl); assumption; (exact extA); exact rfl; omega; assumption; intro b off h; have hcc := h; first | (obtain ⟨h1, h2, h3, h4, h5, h6, _⟩ := h) | (obtain ⟨h1, h2, h3, _⟩ := h) | (obtain ⟨h1, h2, _⟩ := h) | (obtain ⟨h1, _⟩ := h)))
              | (show Z _ _ _ _ _; first | apply Z.then_normal | apply Z.block_normal)
              | (show W _ _ _ _ _ _; first | apply W.seq | apply W.region | apply W.block | apply W.skip)
              | fail)
            exact Z.again1 ⟨by omega, fun j hj hh => by
              by_cases hjk : j = k
              · subst hjk; rw [hz] at hh; cases hh; exact z2 rfl
              · exact hno j (by omega) hh⟩ ⟨rfl, rfl, rfl, rfl, trivial⟩
        · repeat' (first
            | (apply WL.nilc; (iterate 3 exact rfl))
            | (apply WL.gF; exact rfl; exact rfl; (focus (first | exact dec_true (by omega) | exact dec_false z1; done)))
            | (apply W.condKT; exact rfl; (focus (first | exact dec_true (by omega) | exact dec_false z1; done)))
            | (show WL _ _ _ _ _ _ _; first | apply WL.nil | (refine WL.au (k := ?_)) | (apply WL.index tOk; (iterate 8 exact rfl); assumption; (exact extA); exact rfl; omega; assumption; intro b off h; have hcc := h; first | (obtain ⟨h1, h2, h3, h4, h5, h6, _⟩ := h) | (obtain ⟨h1, h2, h3, _⟩ := h) | (obtain ⟨h1, h2, _⟩ := h) | (obtain ⟨h1, _⟩ := h)) | (apply WL.guardF; exact rfl; exact rfl))
            | (show Z _ _ _ _ _; first | apply Z.then_normal | apply Z.block_normal)
            | (show W _ _ _ _ _ _; first | apply W.seq | apply W.region | apply W.block | apply W.skip | (apply W.condF; exact rfl))
            | fail)
          exact Z.again1 ⟨by omega, fun j hj hh => by
            by_cases hjk : j = k
            · subst hjk; rw [hz] at hh; cases hh; exact z1 rfl
            · exact hno j (by omega) hh⟩ ⟨rfl, rfl, rfl, rfl, trivial⟩
      · obtain rfl : k = N.length := by omega
        rw [g5.2 (fun j hh => by
          by_cases hj : j < N.length
          · exact hno j hj hh
          · rw [List.getElem?_eq_none (by omega)] at hh; cases hh)]
        repeat' (first
          | (apply WL.nilc; (iterate 3 exact rfl))
          | (apply WL.build tOk; (iterate 7 exact rfl); kernel_rfl)
          | (apply W.condKF; exact rfl; (focus (exact dec_false (by omega); done)))
          | (((show WL _ _ _ (⟨_, .call ⟨.value (.func 158), _, _⟩, _, _, _, _⟩ :: _) _ _ _); apply WL.call; (iterate 4 exact rfl); exact rs_put gs cap a N (x, y) rest _ w0 hX hS hN; rintro v' w' ⟨hX2, a', cap', rfl, hS2⟩))
          | (show WL _ _ _ _ _ _ _; first | apply WL.nil | (refine WL.au (k := ?_)))
          | (show Z _ _ _ _ _; first | apply Z.then_normal | apply Z.then_exit | apply Z.block_exit)
          | (show W _ _ _ _ _ _; first | apply W.seq | apply W.region | apply W.ret | apply W.exit)
          | fail)
        exact Z.body1 Try.results119 rfl fun m => ⟨hX2.at m, a', cap', rfl, hS2.ext ((Ext.refl _).at m)⟩
    · rw [andV_no (fun h => hy h.2)]
      refine Spec.of _ Try.func119 rfl Try.ntmps119 (by kernel_rfl) rfl ?_
      repeat' (first
        | ((show WL _ _ _ (⟨_, .call ⟨.value (.func 118), _, _⟩, _, _, _, _⟩ :: _) _ _ _); apply WL.callS; (iterate 4 exact rfl); exact rs_Has gs cap a N x _ hC0 (by omega))
        | ((show WL _ _ _ (⟨_, .call ⟨.value (.func 118), _, _⟩, _, _, _, _⟩ :: _) _ _ _); apply WL.callS; (iterate 4 exact rfl); exact rs_Has gs cap a N y _ hC0 (by omega))
        | (apply WL.gF; exact rfl; exact rfl; (focus (first | (rw [dec_true hx]; rfl) | (rw [dec_false hy]; rfl); done)))
        | (apply W.condKT; exact rfl; (focus (first | (rw [dec_true hx]; rfl) | (rw [dec_false hy]; rfl); done)))
        | (show WL _ _ _ _ _ _ _; first | apply WL.nil | (refine WL.au (k := ?_)))
        | (show Z _ _ _ _ _; first | apply Z.then_normal | apply Z.then_ret)
        | (show W _ _ _ _ _ _; first | apply W.seq | apply W.region | apply W.ret)
        | fail)
      exact Z.body1 Try.results119 rfl fun m => ⟨hX.at m, a, cap, rfl, hS.ext ((Ext.refl _).at m)⟩
  · rw [andV_no (fun h => hx h.1)]
    refine Spec.of _ Try.func119 rfl Try.ntmps119 (by kernel_rfl) rfl ?_
    repeat' (first
      | ((show WL _ _ _ (⟨_, .call ⟨.value (.func 118), _, _⟩, _, _, _, _⟩ :: _) _ _ _); apply WL.callS; (iterate 4 exact rfl); exact rs_Has gs cap a N x _ hC0 (by omega))
      | (apply WL.gT; exact rfl; exact rfl; (focus (first | (rw [dec_false hx]; rfl); done)))
      | (show WL _ _ _ _ _ _ _; first | apply WL.nil | (refine WL.au (k := ?_)) | (apply WL.guardF; exact rfl; exact rfl))
      | (show Z _ _ _ _ _; first | apply Z.then_normal | apply Z.then_ret)
      | (show W _ _ _ _ _ _; first | apply W.seq | apply W.region | apply W.ret | (apply W.condT; exact rfl))
      | fail)
    exact Z.body1 Try.results119 rfl fun m => ⟨hX.at m, a, cap, rfl, hS.ext ((Ext.refl _).at m)⟩

set_option maxHeartbeats 8000000 in
theorem rs_AndGt (gs cap : Nat) (a : Option Addr) (N : List (Int × Int)) (x y : Int) (rest : List Piece) (w w0 : World) (hX : Ext w0 w) (hS : Sep w0.heap.size w (rsN w0.heap.size gs a cap N ++ rest)) (hN : N.length < 1048576) (hxy : y < x) :
    Lt.Spec Try.prog 119 [.pointer (some ⟨gs, 0, none⟩), .int .i64 x, .int .i64 y] w (AtRs w0 gs rest (andV N x y)) := by
  have hR1 := hS.row (i := 1) rfl
  have RN := Own.row encN_ok hR1
  have hC0 := hS.cell (i := 0) rfl
  obtain ⟨hD0, _⟩ := cells_heap hC0
  by_cases hx : hasL N x
  · by_cases hy : hasL N y
    · have hx' : 0 ≤ x ∧ x < 2 * ((N.length : Int) + 1) := hx
      have hy' : 0 ≤ y ∧ y < 2 * ((N.length : Int) + 1) := hy
      obtain ⟨g1, g2, g3, g4⟩ := andV_comm_ways hx hy
      refine Spec.of _ Try.func119 rfl Try.ntmps119 (by kernel_rfl) rfl ?_
      repeat' (first
        | ((show WL _ _ _ (⟨_, .call ⟨.value (.func 118), _, _⟩, _, _, _, _⟩ :: _) _ _ _); apply WL.callS; (iterate 4 exact rfl); exact rs_Has gs cap a N x _ hC0 (by omega))
        | ((show WL _ _ _ (⟨_, .call ⟨.value (.func 118), _, _⟩, _, _, _, _⟩ :: _) _ _ _); apply WL.callS; (iterate 4 exact rfl); exact rs_Has gs cap a N y _ hC0 (by omega))
        | ((show WL _ _ _ (⟨_, .call ⟨.value (.func 69), _, _⟩, _, _, _, _⟩ :: _) _ _ _); apply WL.callS; (iterate 4 exact rfl); exact rs_Not y _ (by omega))
        | (apply WL.gF; exact rfl; exact rfl; (focus (first | (rw [dec_true hx]; rfl) | (rw [dec_true hy]; rfl) | exact dec_true (by omega); done)))
        | (apply W.condKT; exact rfl; (focus (first | (rw [dec_true hx]; rfl) | (rw [dec_true hy]; rfl) | exact dec_true (by omega); done)))
        | (apply W.condKF; exact rfl; (focus (first | (rw [dec_true hx]; rfl) | (rw [dec_true hy]; rfl) | exact dec_true (by omega); done)))
        | (show WL _ _ _ _ _ _ _; first | apply WL.nil | (refine WL.au (k := ?_)) | (apply WL.guardF; exact rfl; exact rfl) | (apply WL.gD; exact rfl; exact rfl; all_goals intro _))
        | (show Z _ _ _ _ _; first | apply Z.then_normal | apply Z.then_ret)
        | (show W _ _ _ _ _ _; first | apply W.seq | apply W.region | apply W.block | apply W.skip | apply W.ret | (apply W.condT; exact rfl) | (apply W.condD; exact rfl; all_goals intro _))
        | fail)
      all_goals first
        | (rw [g1 (by omega)]; exact Z.body1 Try.results119 rfl fun m => ⟨hX.at m, a, cap, rfl, hS.ext ((Ext.refl _).at m)⟩)
        | (rw [g2 (by omega) (by omega)]; exact Z.body1 Try.results119 rfl fun m => ⟨hX.at m, a, cap, rfl, hS.ext ((Ext.refl _).at m)⟩)
        | (rw [g3 (by omega) (by omega) (by omega)]; exact Z.body1 Try.results119 rfl fun m => ⟨hX.at m, a, cap, rfl, hS.ext ((Ext.refl _).at m)⟩)
        | skip
      have g5 := g4 (by omega) (by omega) (by omega) y x (by omega) (by omega)
      refine W.loop1 N.length (fun k => k ≤ N.length ∧ ∀ j : Nat, j < k → N[j]? ≠ some (y, x)) (fun k => [(0, .pointer (some ⟨gs, 0, none⟩)), (1, .int .i64 y), (2, .int .i64 x), (7, .int .i64 k)]) ⟨by omega, fun j h => by omega⟩ (fun k h => h.1) ⟨rfl, rfl, rfl, rfl, trivial⟩ ?_
      rintro k ⟨hk, hno⟩
      by_cases hlt : k < N.length
      · obtain ⟨z, hz⟩ := getI N hlt
        by_cases z1 : z.1 = y
        · by_cases z2 : z.2 = x
          · have hzp : z = (y, x) := Prod.ext z1 z2
            rw [g5.1 k (by rw [hz, hzp]) hno]
            repeat' (first
              | (apply WL.nilc; (iterate 3 exact rfl))
              | (apply WL.gT; exact rfl; exact rfl; (focus (first | exact dec_true (by omega) | exact dec_true z1 | exact dec_true z2; done)))
              | (apply W.condKT; exact rfl; (focus (first | exact dec_true (by omega) | exact dec_true z1 | exact dec_true z2; done)))
              | (show WL _ _ _ _ _ _ _; first | apply WL.nil | (refine WL.au (k := ?_)) | (apply WL.index tOk; (iterate 8 exact rfl); assumption; (exact extA); exact rfl; omega; assumption; intro b off h; have hcc := h; first | (obtain ⟨h1, h2, h3, h4, h5, h6, _⟩ := h) | (obtain ⟨h1, h2, h3, _⟩ := h) | (obtain ⟨h1, h2, _⟩ := h) | (obtain ⟨h1, _⟩ := h)))
              | (show Z _ _ _ _ _; first | apply Z.then_normal | apply Z.then_ret | apply Z.block_ret)
              | (show W _ _ _ _ _ _; first | apply W.seq | apply W.region | apply W.block | apply W.skip | apply W.ret)
              | fail)
            exact Z.body1 Try.results119 rfl fun m => ⟨hX.at m, a, cap, rfl, hS.ext ((Ext.refl _).at m)⟩
          · repeat' (first
              | (apply WL.nilc; (iterate 3 exact rfl))
              | (apply WL.gT; exact rfl; exact rfl; (focus (first | exact dec_true (by omega) | exact dec_true z1 | exact dec_false z2; done)))
              | (apply W.condKT; exact rfl; (focus (first | exact dec_true (by omega) | exact dec_true z1 | exact dec_false z2; done)))
              | (apply W.condKF; exact rfl; (focus (first | exact dec_true (by omega) | exact dec_true z1 | exact dec_false z2; done)))
              | (show WL _ _ _ _ _ _ _; first | apply WL.nil | (refine WL.au (k := ?_)) | (apply WL.index tOk; (iterate 8 exact rfl); assumption; (exact extA); exact rfl; omega; assumption; intro b off h; have hcc := h; first | (obtain ⟨h1, h2, h3, h4, h5, h6, _⟩ := h) | (obtain ⟨h1, h2, h3, _⟩ := h) | (obtain ⟨h1, h2, _⟩ := h) | (obtain ⟨h1, _⟩ := h)))
              | (show Z _ _ _ _ _; first | apply Z.then_normal | apply Z.block_normal)
              | (show W _ _ _ _ _ _; first | apply W.seq | apply W.region | apply W.block | apply W.skip)
              | fail)
            exact Z.again1 ⟨by omega, fun j hj hh => by
              by_cases hjk : j = k
              · subst hjk; rw [hz] at hh; cases hh; exact z2 rfl
              · exact hno j (by omega) hh⟩ ⟨rfl, rfl, rfl, rfl, trivial⟩
        · repeat' (first
            | (apply WL.nilc; (iterate 3 exact rfl))
            | (apply WL.gF; exact rfl; exact rfl; (focus (first | exact dec_true (by omega) | exact dec_false z1; done)))
            | (apply W.condKT; exact rfl; (focus (first | exact dec_true (by omega) | exact dec_false z1; done)))
            | (show WL _ _ _ _ _ _ _; first | apply WL.nil | (refine WL.au (k := ?_)) | (apply WL.index tOk; (iterate 8 exact rfl); assumption; (exact extA); exact rfl; omega; assumption; intro b off h; have hcc := h; first | (obtain ⟨h1, h2, h3, h4, h5, h6, _⟩ := h) | (obtain ⟨h1, h2, h3, _⟩ := h) | (obtain ⟨h1, h2, _⟩ := h) | (obtain ⟨h1, _⟩ := h)) | (apply WL.guardF; exact rfl; exact rfl))
            | (show Z _ _ _ _ _; first | apply Z.then_normal | apply Z.block_normal)
            | (show W _ _ _ _ _ _; first | apply W.seq | apply W.region | apply W.block | apply W.skip | (apply W.condF; exact rfl))
            | fail)
          exact Z.again1 ⟨by omega, fun j hj hh => by
            by_cases hjk : j = k
            · subst hjk; rw [hz] at hh; cases hh; exact z1 rfl
            · exact hno j (by omega) hh⟩ ⟨rfl, rfl, rfl, rfl, trivial⟩
      · obtain rfl : k = N.length := by omega
        rw [g5.2 (fun j hh => by
          by_cases hj : j < N.length
          · exact hno j hj hh
          · rw [List.getElem?_eq_none (by omega)] at hh; cases hh)]
        repeat' (first
          | (apply WL.nilc; (iterate 3 exact rfl))
          | (apply WL.build tOk; (iterate 7 exact rfl); kernel_rfl)
          | (apply W.condKF; exact rfl; (focus (exact dec_false (by omega); done)))
          | (((show WL _ _ _ (⟨_, .call ⟨.value (.func 158), _, _⟩, _, _, _, _⟩ :: _) _ _ _); apply WL.call; (iterate 4 exact rfl); exact rs_put gs cap a N (y, x) rest _ w0 hX hS hN; rintro v' w' ⟨hX2, a', cap', rfl, hS2⟩))
          | (show WL _ _ _ _ _ _ _; first | apply WL.nil | (refine WL.au (k := ?_)))
          | (show Z _ _ _ _ _; first | apply Z.then_normal | apply Z.then_exit | apply Z.block_exit)
          | (show W _ _ _ _ _ _; first | apply W.seq | apply W.region | apply W.ret | apply W.exit)
          | fail)
        exact Z.body1 Try.results119 rfl fun m => ⟨hX2.at m, a', cap', rfl, hS2.ext ((Ext.refl _).at m)⟩
    · rw [andV_no (fun h => hy h.2)]
      refine Spec.of _ Try.func119 rfl Try.ntmps119 (by kernel_rfl) rfl ?_
      repeat' (first
        | ((show WL _ _ _ (⟨_, .call ⟨.value (.func 118), _, _⟩, _, _, _, _⟩ :: _) _ _ _); apply WL.callS; (iterate 4 exact rfl); exact rs_Has gs cap a N x _ hC0 (by omega))
        | ((show WL _ _ _ (⟨_, .call ⟨.value (.func 118), _, _⟩, _, _, _, _⟩ :: _) _ _ _); apply WL.callS; (iterate 4 exact rfl); exact rs_Has gs cap a N y _ hC0 (by omega))
        | (apply WL.gF; exact rfl; exact rfl; (focus (first | (rw [dec_true hx]; rfl) | (rw [dec_false hy]; rfl); done)))
        | (apply W.condKT; exact rfl; (focus (first | (rw [dec_true hx]; rfl) | (rw [dec_false hy]; rfl); done)))
        | (show WL _ _ _ _ _ _ _; first | apply WL.nil | (refine WL.au (k := ?_)))
        | (show Z _ _ _ _ _; first | apply Z.then_normal | apply Z.then_ret)
        | (show W _ _ _ _ _ _; first | apply W.seq | apply W.region | apply W.ret)
        | fail)
      exact Z.body1 Try.results119 rfl fun m => ⟨hX.at m, a, cap, rfl, hS.ext ((Ext.refl _).at m)⟩
  · rw [andV_no (fun h => hx h.1)]
    refine Spec.of _ Try.func119 rfl Try.ntmps119 (by kernel_rfl) rfl ?_
    repeat' (first
      | ((show WL _ _ _ (⟨_, .call ⟨.value (.func 118), _, _⟩, _, _, _, _⟩ :: _) _ _ _); apply WL.callS; (iterate 4 exact rfl); exact rs_Has gs cap a N x _ hC0 (by omega))
      | (apply WL.gT; exact rfl; exact rfl; (focus (first | (rw [dec_false hx]; rfl); done)))
      | (show WL _ _ _ _ _ _ _; first | apply WL.nil | (refine WL.au (k := ?_)) | (apply WL.guardF; exact rfl; exact rfl))
      | (show Z _ _ _ _ _; first | apply Z.then_normal | apply Z.then_ret)
      | (show W _ _ _ _ _ _; first | apply W.seq | apply W.region | apply W.ret | (apply W.condT; exact rfl))
      | fail)
    exact Z.body1 Try.results119 rfl fun m => ⟨hX.at m, a, cap, rfl, hS.ext ((Ext.refl _).at m)⟩

theorem rs_And (gs cap : Nat) (a : Option Addr) (N : List (Int × Int)) (x y : Int) (rest : List Piece) (w w0 : World) (hX : Ext w0 w) (hS : Sep w0.heap.size w (rsN w0.heap.size gs a cap N ++ rest)) (hN : N.length < 1048576) :
    Lt.Spec Try.prog 119 [.pointer (some ⟨gs, 0, none⟩), .int .i64 x, .int .i64 y] w (AtRs w0 gs rest (andV N x y)) := by
  by_cases hxy : x ≤ y
  · exact rs_AndLe gs cap a N x y rest w w0 hX hS hN hxy
  · exact rs_AndGt gs cap a N x y rest w w0 hX hS hN (by omega)
theorem rs_Or (gs cap : Nat) (a : Option Addr) (N : List (Int × Int)) (x y : Int) (rest : List Piece) (w w0 : World) (hX : Ext w0 w) (hS : Sep w0.heap.size w (rsN w0.heap.size gs a cap N ++ rest)) (hN : N.length < 1048576) (hbx : x ≤ 9223372036854775807) (hby : y ≤ 9223372036854775807) :
    Lt.Spec Try.prog 68 [.pointer (some ⟨gs, 0, none⟩), .int .i64 x, .int .i64 y] w (AtRs w0 gs rest (orV N x y)) := by
  have hl := andV_len N (notL x) (notL y)
  have hle := andV_le N (notL x) (notL y)
  have hb9 : (andV N (notL x) (notL y)).1 ≤ 9223372036854775807 := by omega
  refine Spec.of _ Try.func68 rfl Try.ntmps68 (by kernel_rfl) rfl ?_
  repeat' (first
    | ((show WL _ _ _ (⟨_, .call ⟨.value (.func 69), _, _⟩, _, _, _, _⟩ :: _) _ _ _); apply WL.callS; (iterate 4 exact rfl); exact rs_Not _ _ (by assumption))
    | (((show WL _ _ _ (⟨_, .call ⟨.value (.func 119), _, _⟩, _, _, _, _⟩ :: _) _ _ _); apply WL.call; (iterate 4 exact rfl); exact rs_And gs cap a N _ _ rest _ w0 hX hS hN; rintro v' w' ⟨hX2, a', cap', rfl, hS2⟩))
    | (show WL _ _ _ _ _ _ _; first | apply WL.nil | (refine WL.au (k := ?_)))
    | (show Z _ _ _ _ _; apply Z.then_normal)
    | (show W _ _ _ _ _ _; first | apply W.seq | apply W.region | apply W.ret)
    | fail)
  exact Z.body1 Try.results68 rfl fun m => ⟨hX2.at m, a', cap', rfl, hS2.ext ((Ext.refl _).at m)⟩

theorem all_snocA {N : List (Int × Int)} {L : List Int} {k : Nat} {z : Int} (hz : L[k]? = some z) (h : ∀ x ∈ L.take k, hasL N x) (hx : hasL N z) : ∀ x ∈ L.take (k + 1), hasL N x := by
  intro x hm
  rw [take_succ' hz] at hm
  rcases List.mem_append.1 hm with h1 | h1
  · exact h x h1
  · obtain rfl := List.mem_singleton.1 h1; exact hx
set_option maxHeartbeats 4000000 in
theorem rs_All (gs cap cl : Nat) (a al : Option Addr) (N : List (Int × Int)) (L : List Int) (rest : List Piece) (w w0 : World) (hX : Ext w0 w) (hS : Sep w0.heap.size w (rsN w0.heap.size gs a cap N ++ rest)) (hN : N.length + L.length < 1048576) (hL : KeepsR w0 gs rest (fun w' => Row 1 encI w' al L)) :
    Lt.Spec Try.prog 66 [.pointer (some ⟨gs, 0, none⟩), .slice al L.length cl] w (AtRs w0 gs rest (allV N L)) := by
  have hC0 := hS.cell (i := 0) rfl
  have RL := hL w a cap N hX hS
  have hll := RL.len
  refine Spec.of _ Try.func66 rfl Try.ntmps66 (by kernel_rfl) rfl ?_
  repeat' (first
    | (show WL _ _ _ _ _ _ _; first | apply WL.nil | (refine WL.au (k := ?_)))
    | (show Z _ _ _ _ _; apply Z.then_normal)
    | (show W _ _ _ _ _ _; first | apply W.seq | apply W.region | apply W.block)
    | fail)
  refine W.loop1 L.length (fun k => k ≤ L.length ∧ ∀ z ∈ L.take k, hasL N z) (fun k => [(0, .pointer (some ⟨gs, 0, none⟩)), (1, .slice al L.length cl), (5, .int .i64 k)]) ⟨by omega, fun z h => by simp at h⟩ (fun k h => h.1) ⟨rfl, rfl, rfl, trivial⟩ ?_
  rintro k ⟨hk, hall⟩
  by_cases hlt : k < L.length
  · obtain ⟨z, hz⟩ := getI L hlt
    by_cases hzz : hasL N z
    · repeat' (first
        | (apply W.condKT; exact rfl; (focus (first | exact dec_true (by omega) | (rw [dec_true hzz]; rfl); done)))
        | (apply W.condKF; exact rfl; (focus (first | exact dec_true (by omega) | (rw [dec_true hzz]; rfl); done)))
        | ((show WL _ _ _ (⟨_, .call ⟨.value (.func 118), _, _⟩, _, _, _, _⟩ :: _) _ _ _); apply WL.callS; (iterate 4 exact rfl); exact rs_Has gs cap a N z _ hC0 (by omega))
        | (show WL _ _ _ _ _ _ _; first | apply WL.nil | (refine WL.au (k := ?_)) | (apply WL.index tOk; (iterate 8 exact rfl); assumption; (exact extA); exact rfl; omega; assumption; intro b off h; have hcc := h; first | (obtain ⟨h1, h2, h3, h4, h5, h6, _⟩ := h) | (obtain ⟨h1, h2, h3, _⟩ := h) | (obtain ⟨h1, h2, _⟩ := h) | (obtain ⟨h1, _⟩ := h)))
        | (show Z _ _ _ _ _; first | apply Z.then_normal | apply Z.block_normal)
        | (show W _ _ _ _ _ _; first | apply W.seq | apply W.region | apply W.block | apply W.skip)
        | fail)
      exact Z.again1 ⟨by omega, all_snocA hz hall hzz⟩ ⟨rfl, rfl, rfl, trivial⟩
    · have e : allV N L = (-1, N) := by unfold allV; rw [dec_false (fun h => hzz (h z (List.mem_of_getElem? hz)))]; rfl
      rw [e]
      repeat' (first
        | (apply W.condKT; exact rfl; (focus (first | exact dec_true (by omega) | (rw [dec_false hzz]; rfl); done)))
        | ((show WL _ _ _ (⟨_, .call ⟨.value (.func 118), _, _⟩, _, _, _, _⟩ :: _) _ _ _); apply WL.callS; (iterate 4 exact rfl); exact rs_Has gs cap a N z _ hC0 (by omega))
        | (show WL _ _ _ _ _ _ _; first | apply WL.nil | (refine WL.au (k := ?_)) | (apply WL.index tOk; (iterate 8 exact rfl); assumption; (exact extA); exact rfl; omega; assumption; intro b off h; have hcc := h; first | (obtain ⟨h1, h2, h3, h4, h5, h6, _⟩ := h) | (obtain ⟨h1, h2, h3, _⟩ := h) | (obtain ⟨h1, h2, _⟩ := h) | (obtain ⟨h1, _⟩ := h)))
        | (show Z _ _ _ _ _; first | apply Z.then_normal | apply Z.then_ret | apply Z.block_ret)
        | (show W _ _ _ _ _ _; first | apply W.seq | apply W.region | apply W.block | apply W.skip | apply W.ret)
        | fail)
      exact Z.body1 Try.results66 rfl fun m => ⟨hX.at m, a, cap, rfl, hS.ext ((Ext.refl _).at m)⟩
  · obtain rfl : k = L.length := by omega
    repeat' (first
      | (apply W.condKF; exact rfl; (focus (exact dec_false (by omega); done)))
      | (show WL _ _ _ _ _ _ _; first | apply WL.nil | (refine WL.au (k := ?_)))
      | (show Z _ _ _ _ _; first | apply Z.then_normal | apply Z.then_exit | apply Z.block_exit)
      | (show W _ _ _ _ _ _; first | apply W.seq | apply W.region | apply W.block | apply W.exit)
      | fail)
    rw [List.take_length] at hall
    have hh := hall
    have e : allV N L = aTo N L L.length := by unfold allV; rw [dec_true hh]; rfl
    rw [e]
    refine W.loopO L.length (fun k a' cp w' => k ≤ L.length ∧ Ext w0 w' ∧ Sep w0.heap.size w' (rsN w0.heap.size gs a' cp (aTo N L k).2 ++ rest)) (fun k a' cp => [(0, .pointer (some ⟨gs, 0, none⟩)), (1, .slice al L.length cl), (6, .int .i64 (aTo N L k).1), (7, .int .i64 k)]) a cap ⟨by omega, hX, hS⟩ (fun k a' cp w' h => h.1) ⟨rfl, rfl, rfl, rfl, trivial⟩ ?_
    rintro k a2 cp2 w2 ⟨hk, hX2, hS2⟩
    have R2 := hL _ _ _ _ hX2 hS2
    obtain ⟨i1, i2, i3, _⟩ := aTo_inv hh k hk
    by_cases hlt : k < L.length
    · obtain ⟨z, hz⟩ := getI L hlt
      have hs := aTo_succ (N := N) hz
      repeat' (first
        | (apply W.condKT; exact rfl; (focus (exact dec_true (by omega); done)))
        | (((show WL _ _ _ (⟨_, .call ⟨.value (.func 119), _, _⟩, _, _, _, _⟩ :: _) _ _ _); apply WL.call; (iterate 4 exact rfl); exact rs_And gs _ _ (aTo N L k).2 _ _ rest _ w0 hX2 hS2 (by omega); rintro v' w' ⟨hX2, a', cap', rfl, hS2⟩))
        | (show WL _ _ _ _ _ _ _; first | apply WL.nil | (refine WL.au (k := ?_)) | (apply WL.index tOk; (iterate 8 exact rfl); assumption; (exact extA); exact rfl; omega; assumption; intro b off h; have hcc := h; first | (obtain ⟨h1, h2, h3, h4, h5, h6, _⟩ := h) | (obtain ⟨h1, h2, h3, _⟩ := h) | (obtain ⟨h1, h2, _⟩ := h) | (obtain ⟨h1, _⟩ := h)))
        | (show Z _ _ _ _ _; first | apply Z.then_normal | apply Z.block_normal)
        | (show W _ _ _ _ _ _; first | apply W.seq | apply W.region | apply W.block | apply W.skip)
        | fail)
      exact Z.againO a' cap' ⟨by omega, hX2, by rw [hs]; exact hS2⟩ (by repeat' first | exact trivial | (refine And.intro ?_ ?_) | exact rfl | (rw [hs]; exact rfl))
    · obtain rfl : k = L.length := by omega
      repeat' (first
        | (apply W.condKF; exact rfl; (focus (exact dec_false (by omega); done)))
        | (show WL _ _ _ _ _ _ _; first | apply WL.nil | (refine WL.au (k := ?_)))
        | (show Z _ _ _ _ _; first | apply Z.then_normal | apply Z.then_exit | apply Z.block_exit)
        | (show W _ _ _ _ _ _; first | apply W.seq | apply W.region | apply W.ret | apply W.exit)
        | fail)
      exact Z.body1 Try.results66 rfl fun m => ⟨hX2.at m, a2, cp2, rfl, hS2.ext ((Ext.refl _).at m)⟩
end Go.Proofs.Yteidpnpbfagaeaa
namespace Go.Proofs.Yteidpnpbfagaeaa
open Go Go.Lt Go.RowKit
set_option linter.unusedVariables false
set_option linter.unusedSimpArgs false
set_option maxRecDepth 20000

abbrev AtCopyR (w0 : World) (gs : Nat) (rest : List Piece) (q : List Int × List (Int × Int)) (v : Value) (w' : World) : Prop :=
  Ext w0 w' ∧ ∃ a' cap' la lc, v = .slice la q.1.length lc ∧ Sep w0.heap.size w' (rsN w0.heap.size gs a' cap' q.2 ++ (prow 1 encI 3 w0.heap.size la lc q.1 :: rest))
theorem Sep.back21 {B : Nat} {w : World} {p a b : Piece} {rs : List Piece} (hS : Sep B w (p :: a :: b :: rs)) : Sep B w (a :: b :: p :: rs) := by
  refine Sep.sub' (fun i => if i < 2 then i + 1 else if i < 3 then i - 2 else i) hS (fun i x h => ?_) (fun i j hi hj hne => ?_)
  · match i, h with
    | 0, h => exact h
    | 1, h => exact h
    | 2, h => exact h
    | i + 3, h =>
      simp only [show ¬ i + 3 < 2 by omega, show ¬ i + 3 < 3 by omega, if_false]; exact h
  · split <;> split <;> (try split) <;> (try split) <;> omega
theorem Sep.drop22 {B : Nat} {w : World} {p a b : Piece} {rs : List Piece} (hS : Sep B w (a :: b :: p :: rs)) : Sep B w (a :: b :: rs) := by
  refine Sep.sub' (fun i => if i < 2 then i else i + 1) hS (fun i x h => ?_) (fun i j hi hj hne => ?_)
  · match i, h with
    | 0, h => exact h
    | 1, h => exact h
    | i + 2, h => simp only [show ¬ i + 2 < 2 by omega, if_false]; exact h
  · split <;> split <;> omega
theorem litI_of {l : List Int} {x z : Int} (hz : l[(x / 2).toNat]? = some z) (h0 : 0 ≤ z) : litI l x = if x % 2 = 1 then notL z else z := by
  unfold litI xorI; rw [getD_of hz, notL_xor1 h0]

set_option maxHeartbeats 8000000 in
theorem rs_Copy (gs cap cn cl : Nat) (a an al : Option Addr) (N n : List (Int × Int)) (ins : List Int) (rest : List Piece) (w w0 : World) (hX : Ext w0 w) (hS : Sep w0.heap.size w (rsN w0.heap.size gs a cap N ++ rest)) (hN : N.length + n.length < 1048576) (hg : GoodNet n)
    (hn : KeepsR w0 gs rest (fun w' => Row 2 encN w' an n)) (hi : KeepsR w0 gs rest (fun w' => Row 1 encI w' al ins)) :
    Lt.Spec Try.prog 64 [.pointer (some ⟨gs, 0, none⟩), .slice an n.length cn, .slice al ins.length cl] w (AtCopyR w0 gs rest (copyV N n ins)) := by
  have hC0 := hS.cell (i := 0) rfl
  have RI := hi w a cap N hX hS
  have hli := RI.len
  refine Spec.of _ Try.func64 rfl Try.ntmps64 (by kernel_rfl) rfl ?_
  repeat' (first
    | (show WL _ _ _ _ _ _ _; first | apply WL.nil | (refine WL.au (k := ?_)))
    | (show Z _ _ _ _ _; apply Z.then_normal)
    | (show W _ _ _ _ _ _; first | apply W.seq | apply W.region | apply W.block)
    | fail)
  refine W.loop1 ins.length (fun k => k ≤ ins.length ∧ ∀ z ∈ ins.take k, hasL N z) (fun k => [(0, .pointer (some ⟨gs, 0, none⟩)), (1, .slice an n.length cn), (2, .slice al ins.length cl), (7, .int .i64 k)]) ⟨by omega, fun z h => by simp at h⟩ (fun k h => h.1) ⟨rfl, rfl, rfl, rfl, trivial⟩ ?_
  rintro k ⟨hk, hall⟩
  by_cases hlt : k < ins.length
  · obtain ⟨z, hz⟩ := getI ins hlt
    by_cases hzz : hasL N z
    · repeat' (first
        | (apply W.condKT; exact rfl; (focus (first | exact dec_true (by omega) | (rw [dec_true hzz]; rfl); done)))
        | (apply W.condKF; exact rfl; (focus (first | exact dec_true (by omega) | (rw [dec_true hzz]; rfl); done)))
        | ((show WL _ _ _ (⟨_, .call ⟨.value (.func 118), _, _⟩, _, _, _, _⟩ :: _) _ _ _); apply WL.callS; (iterate 4 exact rfl); exact rs_Has gs cap a N z _ hC0 (by omega))
        | (show WL _ _ _ _ _ _ _; first | apply WL.nil | (refine WL.au (k := ?_)) | (apply WL.index tOk; (iterate 8 exact rfl); assumption; (exact extA); exact rfl; omega; assumption; intro b off h; have hcc := h; first | (obtain ⟨h1, h2, h3, h4, h5, h6, _⟩ := h) | (obtain ⟨h1, h2, h3, _⟩ := h) | (obtain ⟨h1, h2, _⟩ := h) | (obtain ⟨h1, _⟩ := h)))
        | (show Z _ _ _ _ _; first | apply Z.then_normal | apply Z.block_normal)
        | (show W _ _ _ _ _ _; first | apply W.seq | apply W.region | apply W.block | apply W.skip)
        | fail)
      exact Z.again1 ⟨by omega, all_snocA hz hall hzz⟩ ⟨rfl, rfl, rfl, rfl, trivial⟩
    · have e : copyV N n ins = ([], N) := by unfold copyV; rw [dec_false (fun h => hzz (h z (List.mem_of_getElem? hz)))]; rfl
      rw [e]
      have hS3 : Lt.Sep w0.heap.size w (rsN w0.heap.size gs a cap N ++ (prow 1 encI 3 w0.heap.size none 0 [] :: rest)) := Sep.back21 (Sep.newRow hS (Ext.refl _) Own.nil (fun k hk => by cases hk) hX.size)
      repeat' (first
        | (apply W.condKT; exact rfl; (focus (first | exact dec_true (by omega) | (rw [dec_false hzz]; rfl); done)))
        | ((show WL _ _ _ (⟨_, .call ⟨.value (.func 118), _, _⟩, _, _, _, _⟩ :: _) _ _ _); apply WL.callS; (iterate 4 exact rfl); exact rs_Has gs cap a N z _ hC0 (by omega))
        | (show WL _ _ _ _ _ _ _; first | apply WL.nil | (refine WL.au (k := ?_)) | (apply WL.index tOk; (iterate 8 exact rfl); assumption; (exact extA); exact rfl; omega; assumption; intro b off h; have hcc := h; first | (obtain ⟨h1, h2, h3, h4, h5, h6, _⟩ := h) | (obtain ⟨h1, h2, h3, _⟩ := h) | (obtain ⟨h1, h2, _⟩ := h) | (obtain ⟨h1, _⟩ := h)))
        | (show Z _ _ _ _ _; first | apply Z.then_normal | apply Z.then_ret | apply Z.block_ret)
        | (show W _ _ _ _ _ _; first | apply W.seq | apply W.region | apply W.block | apply W.skip | apply W.ret)
        | fail)
      exact Z.body1 Try.results64 rfl fun m => ⟨hX.at m, a, cap, none, 0, rfl, hS3.ext ((Ext.refl _).at m)⟩
  · obtain rfl : k = ins.length := by omega
    rw [List.take_length] at hall
    have hh := hall
    have e : copyV N n ins = ((cto N n ins n.length).1, (cto N n ins n.length).2.2) := by unfold copyV; rw [dec_true hh]; rfl
    rw [e]
    repeat' (first
      | (apply W.condKF; exact rfl; (focus (exact dec_false (by omega); done)))
      | (apply WL.lit tOk; (iterate 6 exact rfl); (first | exact rfl | kernel_rfl | (simp [Instr.fill, catCells]; done)); exact rfl; intro gb w' hb hge hc hx; have hO := Own.of_block ([(0 : Int)]) encI_ok hb hge rfl)
      | (show WL _ _ _ _ _ _ _; first | apply WL.nil | (refine WL.au (k := ?_)))
      | (show Z _ _ _ _ _; first | apply Z.then_normal | apply Z.then_exit | apply Z.block_exit)
      | (show W _ _ _ _ _ _; first | apply W.seq | apply W.region | apply W.block | apply W.exit)
      | fail)
    have hOl := hO.base hX.size
    have hS0 : Lt.Sep w0.heap.size w' (rsN w0.heap.size gs a cap N ++ (prow 1 encI 3 w0.heap.size (some ⟨gb, 0, none⟩) 1 [0] :: rest)) := Sep.back21 (Sep.newRow hS hx hOl (fun k hk => by cases hk; exact hge) hX.size)
    refine W.loopO n.length (fun k la lc w' => k ≤ n.length ∧ Ext w0 w' ∧ ∃ a' cap', Sep w0.heap.size w' (rsN w0.heap.size gs a' cap' (cto N n ins k).2.2 ++ (prow 1 encI 3 w0.heap.size la lc (cto N n ins k).1 :: rest)))
      (fun k la lc => [(0, .pointer (some ⟨gs, 0, none⟩)), (1, .slice an n.length cn), (2, .slice al ins.length cl), (8, .slice la (cto N n ins k).1.length lc), (9, .int .i64 (cto N n ins k).2.1), (10, .int .i64 k)])
      (some ⟨gb, 0, none⟩) _ ⟨by omega, hX.trans hx, a, cap, hS0⟩ (fun k la lc w' h => h.1) ⟨rfl, rfl, rfl, rfl, rfl, rfl, trivial⟩ ?_
    rintro k la lc w9 ⟨hk, hX9, a2, cap2, hS9⟩
    obtain ⟨i1, i2, i3, i4, i5, i6⟩ := cto_inv (N := N) hg hh k hk
    have Rn := hn _ _ _ _ hX9 (Sep.drop22 hS9)
    have Ri := hi _ _ _ _ hX9 (Sep.drop22 hS9)
    have hS := hS9
    (try simp only [List.set_cons_zero, List.set_cons_succ] at hS); (try have hR0 := hS.row (i := 0) rfl); (try have hR1 := hS.row (i := 1) rfl); (try have hR2 := hS.row (i := 2) rfl); (try have hR3 := hS.row (i := 3) rfl); (try have hR4 := hS.row (i := 4) rfl); (try have hC0 := hS.cell (i := 0) rfl); (try have hD0 := (cells_heap hC0).1); (try have hE0 := (cells_heap hC0).2.1); (try have hF0 := (cells_heap hC0).2.2.1); (try have hG0 := (cells_heap hC0).2.2.2.1); (try have hC1 := hS.cell (i := 1) rfl); (try have hD1 := (cells_heap hC1).1); (try have hE1 := (cells_heap hC1).2.1); (try have hF1 := (cells_heap hC1).2.2.1); (try have hG1 := (cells_heap hC1).2.2.2.1); (try have hC2 := hS.cell (i := 2) rfl); (try have hD2 := (cells_heap hC2).1); (try have hE2 := (cells_heap hC2).2.1); (try have hF2 := (cells_heap hC2).2.2.1); (try have hG2 := (cells_heap hC2).2.2.2.1); (try have hC3 := hS.cell (i := 3) rfl); (try have hD3 := (cells_heap hC3).1); (try have hE3 := (cells_heap hC3).2.1); (try have hF3 := (cells_heap hC3).2.2.1); (try have hG3 := (cells_heap hC3).2.2.2.1); (try have hC4 := hS.cell (i := 4) rfl); (try have hD4 := (cells_heap hC4).1); (try have hE4 := (cells_heap hC4).2.1); (try have hF4 := (cells_heap hC4).2.2.1); (try have hG4 := (cells_heap hC4).2.2.2.1); (try have hM0 := hS.map (i := 0) rfl); (try have hM1 := hS.map (i := 1) rfl); (try have hM2 := hS.map (i := 2) rfl); (try have hM3 := hS.map (i := 3) rfl); (try have hM4 := hS.map (i := 4) rfl)
    have RL := Own.row encI_ok hR2
    by_cases hlt : k < n.length
    · obtain ⟨x, hxn⟩ := getI n hlt
      have hs := cto_succ (N := N) (ins := ins) hxn
      by_cases hin : 0 ≤ x.1
      · have hgt := hg.gate hxn hin
        obtain ⟨za, hza⟩ := getI (cto N n ins k).1 (show (x.1 / 2).toNat < (cto N n ins k).1.length by omega)
        obtain ⟨zb, hzb⟩ := getI (cto N n ins k).1 (show (x.2 / 2).toNat < (cto N n ins k).1.length by omega)
        have ba : 0 ≤ za ∧ za ≤ 9223372036854775807 := by have := i2 za (List.mem_of_getElem? hza); unfold hasL at this; omega
        have bb : 0 ≤ zb ∧ zb ≤ 9223372036854775807 := by have := i2 zb (List.mem_of_getElem? hzb); unfold hasL at this; omega
        have e1 : (cto N n ins (k + 1)).1 = (cto N n ins k).1 ++ [(andV (cto N n ins k).2.2 (litI (cto N n ins k).1 x.1) (litI (cto N n ins k).1 x.2)).1] := by rw [hs, cstep, if_pos hin]
        have e2 : (cto N n ins (k + 1)).2.1 = (cto N n ins k).2.1 := by rw [hs, cstep, if_pos hin]
        have e3 : (cto N n ins (k + 1)).2.2 = (andV (cto N n ins k).2.2 (litI (cto N n ins k).1 x.1) (litI (cto N n ins k).1 x.2)).2 := by rw [hs, cstep, if_pos hin]
        rw [litI_of hza ba.1, litI_of hzb bb.1] at e1 e3
        by_cases pa : x.1 % 2 = 1 <;> by_cases pb : x.2 % 2 = 1
        all_goals (
          first
            | rw [if_pos pa, if_pos pb] at e1 e3
            | rw [if_pos pa, if_neg pb] at e1 e3
            | rw [if_neg pa, if_pos pb] at e1 e3
            | rw [if_neg pa, if_neg pb] at e1 e3
          repeat' (first
            | (apply W.condKT; exact rfl; (focus (first | exact dec_true (by omega) | exact dec_false (by omega); done)))
            | (apply W.condKF; exact rfl; (focus (first | exact dec_true (by omega) | exact dec_false (by omega); done)))
            | ((show WL _ _ _ (⟨_, .call ⟨.value (.func 69), _, _⟩, _, _, _, _⟩ :: _) _ _ _); apply WL.callS; (iterate 4 exact rfl); exact rs_Not za _ ba.2)
            | ((show WL _ _ _ (⟨_, .call ⟨.value (.func 69), _, _⟩, _, _, _, _⟩ :: _) _ _ _); apply WL.callS; (iterate 4 exact rfl); exact rs_Not zb _ bb.2)
            | (((show WL _ _ _ (⟨_, .call ⟨.value (.func 119), _, _⟩, _, _, _, _⟩ :: _) _ _ _); apply WL.call; (iterate 4 exact rfl); exact rs_And gs _ _ (cto N n ins k).2.2 _ _ (prow 1 encI 3 w0.heap.size la lc (cto N n ins k).1 :: rest) _ w0 hX9 hS9 (by omega); rintro v' w8 ⟨hX8, a8, cap8, rfl, hS⟩; (try simp only [List.set_cons_zero, List.set_cons_succ] at hS); (try have hR0 := hS.row (i := 0) rfl); (try have hR1 := hS.row (i := 1) rfl); (try have hR2 := hS.row (i := 2) rfl); (try have hR3 := hS.row (i := 3) rfl); (try have hR4 := hS.row (i := 4) rfl); (try have hC0 := hS.cell (i := 0) rfl); (try have hD0 := (cells_heap hC0).1); (try have hE0 := (cells_heap hC0).2.1); (try have hF0 := (cells_heap hC0).2.2.1); (try have hG0 := (cells_heap hC0).2.2.2.1); (try have hC1 := hS.cell (i := 1) rfl); (try have hD1 := (cells_heap hC1).1); (try have hE1 := (cells_heap hC1).2.1); (try have hF1 := (cells_heap hC1).2.2.1); (try have hG1 := (cells_heap hC1).2.2.2.1); (try have hC2 := hS.cell (i := 2) rfl); (try have hD2 := (cells_heap hC2).1); (try have hE2 := (cells_heap hC2).2.1); (try have hF2 := (cells_heap hC2).2.2.1); (try have hG2 := (cells_heap hC2).2.2.2.1); (try have hC3 := hS.cell (i := 3) rfl); (try have hD3 := (cells_heap hC3).1); (try have hE3 := (cells_heap hC3).2.1); (try have hF3 := (cells_heap hC3).2.2.1); (try have hG3 := (cells_heap hC3).2.2.2.1); (try have hC4 := hS.cell (i := 4) rfl); (try have hD4 := (cells_heap hC4).1); (try have hE4 := (cells_heap hC4).2.1); (try have hF4 := (cells_heap hC4).2.2.1); (try have hG4 := (cells_heap hC4).2.2.2.1); (try have hM0 := hS.map (i := 0) rfl); (try have hM1 := hS.map (i := 1) rfl); (try have hM2 := hS.map (i := 2) rfl); (try have hM3 := hS.map (i := 3) rfl); (try have hM4 := hS.map (i := 4) rfl)))
            | (apply WL.lit tOk; (iterate 6 exact rfl); (first | exact rfl | kernel_rfl | (simp [Instr.fill, catCells]; done)); exact rfl; intro gb w' hb hge hc hx)
            | (apply WL.append1 tOk encI_ok; (iterate 10 exact rfl); assumption; (exact extA); (first | exact rfl | (focus (simp only [List.length_set]; done)) | (focus (simp; done)) | (focus (simp [*]; done)) | omega | (focus (simp only [List.length_set]; omega))); assumption; (first | exact rfl | exact (rfl : encI (_, _) = _)); exact rfl; (exact extA); (first | omega | (simp; omega) | (simp at *; omega)); intro a' cap' w' hO hX' hU hF; (first | replace hS := Sep.updRow (i := 0) rfl hU hO hF hS (by (exact extA)) (by (first | exact Nat.le_refl _ | exact Below.size (by (exact extA)))) | replace hS := Sep.updRow (i := 1) rfl hU hO hF hS (by (exact extA)) (by (first | exact Nat.le_refl _ | exact Below.size (by (exact extA)))) | replace hS := Sep.updRow (i := 2) rfl hU hO hF hS (by (exact extA)) (by (first | exact Nat.le_refl _ | exact Below.size (by (exact extA)))) | replace hS := Sep.updRow (i := 3) rfl hU hO hF hS (by (exact extA)) (by (first | exact Nat.le_refl _ | exact Below.size (by (exact extA)))) | replace hS := Sep.updRow (i := 4) rfl hU hO hF hS (by (exact extA)) (by (first | exact Nat.le_refl _ | exact Below.size (by (exact extA)))) | replace hS := Sep.updRow (i := 5) rfl hU hO hF hS (by (exact extA)) (by (first | exact Nat.le_refl _ | exact Below.size (by (exact extA))))); (try simp only [List.set_cons_zero, List.set_cons_succ] at hS); (try have hR0 := hS.row (i := 0) rfl); (try have hR1 := hS.row (i := 1) rfl); (try have hR2 := hS.row (i := 2) rfl); (try have hR3 := hS.row (i := 3) rfl); (try have hR4 := hS.row (i := 4) rfl); (try have hC0 := hS.cell (i := 0) rfl); (try have hD0 := (cells_heap hC0).1); (try have hE0 := (cells_heap hC0).2.1); (try have hF0 := (cells_heap hC0).2.2.1); (try have hG0 := (cells_heap hC0).2.2.2.1); (try have hC1 := hS.cell (i := 1) rfl); (try have hD1 := (cells_heap hC1).1); (try have hE1 := (cells_heap hC1).2.1); (try have hF1 := (cells_heap hC1).2.2.1); (try have hG1 := (cells_heap hC1).2.2.2.1); (try have hC2 := hS.cell (i := 2) rfl); (try have hD2 := (cells_heap hC2).1); (try have hE2 := (cells_heap hC2).2.1); (try have hF2 := (cells_heap hC2).2.2.1); (try have hG2 := (cells_heap hC2).2.2.2.1); (try have hC3 := hS.cell (i := 3) rfl); (try have hD3 := (cells_heap hC3).1); (try have hE3 := (cells_heap hC3).2.1); (try have hF3 := (cells_heap hC3).2.2.1); (try have hG3 := (cells_heap hC3).2.2.2.1); (try have hC4 := hS.cell (i := 4) rfl); (try have hD4 := (cells_heap hC4).1); (try have hE4 := (cells_heap hC4).2.1); (try have hF4 := (cells_heap hC4).2.2.1); (try have hG4 := (cells_heap hC4).2.2.2.1); (try have hM0 := hS.map (i := 0) rfl); (try have hM1 := hS.map (i := 1) rfl); (try have hM2 := hS.map (i := 2) rfl); (try have hM3 := hS.map (i := 3) rfl); (try have hM4 := hS.map (i := 4) rfl))
            | (show WL _ _ _ _ _ _ _; first | apply WL.nil | (refine WL.au (k := ?_)) | (apply WL.index tOk; (iterate 8 exact rfl); assumption; (exact extA); exact rfl; omega; assumption; intro b off h; have hcc := h; first | (obtain ⟨h1, h2, h3, h4, h5, h6, _⟩ := h) | (obtain ⟨h1, h2, h3, _⟩ := h) | (obtain ⟨h1, h2, _⟩ := h) | (obtain ⟨h1, _⟩ := h)))
            | (show QL _ _ _ _ _ _ _; first | apply QL.nil | (refine QL.au (k := ?_)) | (apply QL.index tOk; (iterate 8 exact rfl); assumption; (exact extA); exact rfl; omega; assumption; intro b off h; have hcc := h; first | (obtain ⟨h1, h2, h3, h4, h5, h6, _⟩ := h) | (obtain ⟨h1, h2, h3, _⟩ := h) | (obtain ⟨h1, h2, _⟩ := h) | (obtain ⟨h1, _⟩ := h)))
            | (show Z _ _ _ _ _; first | apply Z.then_normal | apply Z.then_exit | apply Z.block_exit)
            | (show W _ _ _ _ _ _; first | apply W.seq | apply W.region | apply W.block | apply W.skip | apply W.exit | (apply W.regionD tMix; kernel_rfl))
            | fail)
          exact Z.againO a' cap' ⟨by omega, by assumption, a8, cap8, by rw [e3, e1]; exact hS⟩ (by repeat' first | exact trivial | (refine And.intro ?_ ?_) | exact rfl | (rw [e1]; exact rfl) | (rw [e2]; exact rfl)))
      · by_cases hki : (cto N n ins k).2.1 < ins.length
        · obtain ⟨z, hz⟩ := getI ins hki
          have e1 : (cto N n ins (k + 1)).1 = (cto N n ins k).1 ++ [z] := by rw [hs, cstep, if_neg hin, if_pos hki, getD_of hz]
          have e2 : (cto N n ins (k + 1)).2.1 = (cto N n ins k).2.1 + 1 := by rw [hs, cstep, if_neg hin, if_pos hki]
          have e2' : ((cto N n ins (k + 1)).2.1 : Int) = ((cto N n ins k).2.1 : Int) + 1 := by rw [e2]; rfl
          have e3 : (cto N n ins (k + 1)).2.2 = (cto N n ins k).2.2 := by rw [hs, cstep, if_neg hin, if_pos hki]
          repeat' (first
            | (apply W.condKT; exact rfl; (focus (first | exact dec_true (by omega) | exact dec_false (by omega); done)))
            | (apply W.condKF; exact rfl; (focus (first | exact dec_true (by omega) | exact dec_false (by omega); done)))
            | (apply WL.lit tOk; (iterate 6 exact rfl); (first | exact rfl | kernel_rfl | (simp [Instr.fill, catCells]; done)); exact rfl; intro gb w' hb hge hc hx)
            | (apply WL.append1 (z := (z)) tOk encI_ok; (iterate 10 exact rfl); assumption; (exact extA); (first | exact rfl | (focus (simp only [List.length_set]; done)) | (focus (simp; done)) | (focus (simp [*]; done)) | omega | (focus (simp only [List.length_set]; omega))); (first | assumption | (refine Cells.ext ?_ (by assumption); exact extA)); exact rfl; exact rfl; (exact extA); (first | omega | (simp; omega) | (simp at *; omega)); intro a' cap' w' hO hX' hU hF; (first | replace hS := Sep.updRow (i := 0) rfl hU hO hF hS (by (exact extA)) (by (first | exact Nat.le_refl _ | exact Below.size (by (exact extA)))) | replace hS := Sep.updRow (i := 1) rfl hU hO hF hS (by (exact extA)) (by (first | exact Nat.le_refl _ | exact Below.size (by (exact extA)))) | replace hS := Sep.updRow (i := 2) rfl hU hO hF hS (by (exact extA)) (by (first | exact Nat.le_refl _ | exact Below.size (by (exact extA)))) | replace hS := Sep.updRow (i := 3) rfl hU hO hF hS (by (exact extA)) (by (first | exact Nat.le_refl _ | exact Below.size (by (exact extA)))) | replace hS := Sep.updRow (i := 4) rfl hU hO hF hS (by (exact extA)) (by (first | exact Nat.le_refl _ | exact Below.size (by (exact extA)))) | replace hS := Sep.updRow (i := 5) rfl hU hO hF hS (by (exact extA)) (by (first | exact Nat.le_refl _ | exact Below.size (by (exact extA))))); (try simp only [List.set_cons_zero, List.set_cons_succ] at hS); (try have hR0 := hS.row (i := 0) rfl); (try have hR1 := hS.row (i := 1) rfl); (try have hR2 := hS.row (i := 2) rfl); (try have hR3 := hS.row (i := 3) rfl); (try have hR4 := hS.row (i := 4) rfl); (try have hC0 := hS.cell (i := 0) rfl); (try have hD0 := (cells_heap hC0).1); (try have hE0 := (cells_heap hC0).2.1); (try have hF0 := (cells_heap hC0).2.2.1); (try have hG0 := (cells_heap hC0).2.2.2.1); (try have hC1 := hS.cell (i := 1) rfl); (try have hD1 := (cells_heap hC1).1); (try have hE1 := (cells_heap hC1).2.1); (try have hF1 := (cells_heap hC1).2.2.1); (try have hG1 := (cells_heap hC1).2.2.2.1); (try have hC2 := hS.cell (i := 2) rfl); (try have hD2 := (cells_heap hC2).1); (try have hE2 := (cells_heap hC2).2.1); (try have hF2 := (cells_heap hC2).2.2.1); (try have hG2 := (cells_heap hC2).2.2.2.1); (try have hC3 := hS.cell (i := 3) rfl); (try have hD3 := (cells_heap hC3).1); (try have hE3 := (cells_heap hC3).2.1); (try have hF3 := (cells_heap hC3).2.2.1); (try have hG3 := (cells_heap hC3).2.2.2.1); (try have hC4 := hS.cell (i := 4) rfl); (try have hD4 := (cells_heap hC4).1); (try have hE4 := (cells_heap hC4).2.1); (try have hF4 := (cells_heap hC4).2.2.1); (try have hG4 := (cells_heap hC4).2.2.2.1); (try have hM0 := hS.map (i := 0) rfl); (try have hM1 := hS.map (i := 1) rfl); (try have hM2 := hS.map (i := 2) rfl); (try have hM3 := hS.map (i := 3) rfl); (try have hM4 := hS.map (i := 4) rfl))
            | (show WL _ _ _ _ _ _ _; first | apply WL.nil | (refine WL.au (k := ?_)) | (apply WL.index tOk; (iterate 8 exact rfl); assumption; (exact extA); exact rfl; omega; assumption; intro b off h; have hcc := h; first | (obtain ⟨h1, h2, h3, h4, h5, h6, _⟩ := h) | (obtain ⟨h1, h2, h3, _⟩ := h) | (obtain ⟨h1, h2, _⟩ := h) | (obtain ⟨h1, _⟩ := h)))
            | (show Z _ _ _ _ _; first | apply Z.then_normal | apply Z.block_normal)
            | (show W _ _ _ _ _ _; first | apply W.seq | apply W.region | apply W.block | apply W.skip)
            | fail)
          exact Z.againO a' cap' ⟨by omega, by assumption, a2, cap2, by rw [e3, e1]; exact hS⟩ (by repeat' first | exact trivial | (refine And.intro ?_ ?_) | exact rfl | (rw [e1]; exact rfl) | (rw [e2']; exact rfl))
        · have e1 : (cto N n ins (k + 1)).1 = (cto N n ins k).1 ++ [2 * (((cto N n ins k).2.2.length : Int) + 1)] := by rw [hs, cstep, if_neg hin, if_neg hki]
          have e2 : (cto N n ins (k + 1)).2.1 = (cto N n ins k).2.1 + 1 := by rw [hs, cstep, if_neg hin, if_neg hki]
          have e2' : ((cto N n ins (k + 1)).2.1 : Int) = ((cto N n ins k).2.1 : Int) + 1 := by rw [e2]; rfl
          have e3 : (cto N n ins (k + 1)).2.2 = (cto N n ins k).2.2 ++ [(-1, 0)] := by rw [hs, cstep, if_neg hin, if_neg hki]
          repeat' (first
            | (apply W.condKT; exact rfl; (focus (first | exact dec_true (by omega) | exact dec_false (by omega); done)))
            | (apply W.condKF; exact rfl; (focus (first | exact dec_true (by omega) | exact dec_false (by omega); done)))
            | (((show WL _ _ _ (⟨_, .call ⟨.value (.func 120), _, _⟩, _, _, _, _⟩ :: _) _ _ _); apply WL.call; (iterate 4 exact rfl); exact rs_Input gs _ _ (cto N n ins k).2.2 (prow 1 encI 3 w0.heap.size la lc (cto N n ins k).1 :: rest) _ w0 hX9 hS9 (by omega); rintro v' w8 ⟨hX8, a8, cap8, rfl, hS⟩; (try simp only [List.set_cons_zero, List.set_cons_succ] at hS); (try have hR0 := hS.row (i := 0) rfl); (try have hR1 := hS.row (i := 1) rfl); (try have hR2 := hS.row (i := 2) rfl); (try have hR3 := hS.row (i := 3) rfl); (try have hR4 := hS.row (i := 4) rfl); (try have hC0 := hS.cell (i := 0) rfl); (try have hD0 := (cells_heap hC0).1); (try have hE0 := (cells_heap hC0).2.1); (try have hF0 := (cells_heap hC0).2.2.1); (try have hG0 := (cells_heap hC0).2.2.2.1); (try have hC1 := hS.cell (i := 1) rfl); (try have hD1 := (cells_heap hC1).1); (try have hE1 := (cells_heap hC1).2.1); (try have hF1 := (cells_heap hC1).2.2.1); (try have hG1 := (cells_heap hC1).2.2.2.1); (try have hC2 := hS.cell (i := 2) rfl); (try have hD2 := (cells_heap hC2).1); (try have hE2 := (cells_heap hC2).2.1); (try have hF2 := (cells_heap hC2).2.2.1); (try have hG2 := (cells_heap hC2).2.2.2.1); (try have hC3 := hS.cell (i := 3) rfl); (try have hD3 := (cells_heap hC3).1); (try have hE3 := (cells_heap hC3).2.1); (try have hF3 := (cells_heap hC3).2.2.1); (try have hG3 := (cells_heap hC3).2.2.2.1); (try have hC4 := hS.cell (i := 4) rfl); (try have hD4 := (cells_heap hC4).1); (try have hE4 := (cells_heap hC4).2.1); (try have hF4 := (cells_heap hC4).2.2.1); (try have hG4 := (cells_heap hC4).2.2.2.1); (try have hM0 := hS.map (i := 0) rfl); (try have hM1 := hS.map (i := 1) rfl); (try have hM2 := hS.map (i := 2) rfl); (try have hM3 := hS.map (i := 3) rfl); (try have hM4 := hS.map (i := 4) rfl)))
            | (apply WL.lit tOk; (iterate 6 exact rfl); (first | exact rfl | kernel_rfl | (simp [Instr.fill, catCells]; done)); exact rfl; intro gb w' hb hge hc hx)
            | (apply WL.append1 (z := (2 * (((cto N n ins k).2.2.length : Int) + 1))) tOk encI_ok; (iterate 10 exact rfl); assumption; (exact extA); (first | exact rfl | (focus (simp only [List.length_set]; done)) | (focus (simp; done)) | (focus (simp [*]; done)) | omega | (focus (simp only [List.length_set]; omega))); (first | assumption | (refine Cells.ext ?_ (by assumption); exact extA)); exact rfl; exact rfl; (exact extA); (first | omega | (simp; omega) | (simp at *; omega)); intro a' cap' w' hO hX' hU hF; (first | replace hS := Sep.updRow (i := 0) rfl hU hO hF hS (by (exact extA)) (by (first | exact Nat.le_refl _ | exact Below.size (by (exact extA)))) | replace hS := Sep.updRow (i := 1) rfl hU hO hF hS (by (exact extA)) (by (first | exact Nat.le_refl _ | exact Below.size (by (exact extA)))) | replace hS := Sep.updRow (i := 2) rfl hU hO hF hS (by (exact extA)) (by (first | exact Nat.le_refl _ | exact Below.size (by (exact extA)))) | replace hS := Sep.updRow (i := 3) rfl hU hO hF hS (by (exact extA)) (by (first | exact Nat.le_refl _ | exact Below.size (by (exact extA)))) | replace hS := Sep.updRow (i := 4) rfl hU hO hF hS (by (exact extA)) (by (first | exact Nat.le_refl _ | exact Below.size (by (exact extA)))) | replace hS := Sep.updRow (i := 5) rfl hU hO hF hS (by (exact extA)) (by (first | exact Nat.le_refl _ | exact Below.size (by (exact extA))))); (try simp only [List.set_cons_zero, List.set_cons_succ] at hS); (try have hR0 := hS.row (i := 0) rfl); (try have hR1 := hS.row (i := 1) rfl); (try have hR2 := hS.row (i := 2) rfl); (try have hR3 := hS.row (i := 3) rfl); (try have hR4 := hS.row (i := 4) rfl); (try have hC0 := hS.cell (i := 0) rfl); (try have hD0 := (cells_heap hC0).1); (try have hE0 := (cells_heap hC0).2.1); (try have hF0 := (cells_heap hC0).2.2.1); (try have hG0 := (cells_heap hC0).2.2.2.1); (try have hC1 := hS.cell (i := 1) rfl); (try have hD1 := (cells_heap hC1).1); (try have hE1 := (cells_heap hC1).2.1); (try have hF1 := (cells_heap hC1).2.2.1); (try have hG1 := (cells_heap hC1).2.2.2.1); (try have hC2 := hS.cell (i := 2) rfl); (try have hD2 := (cells_heap hC2).1); (try have hE2 := (cells_heap hC2).2.1); (try have hF2 := (cells_heap hC2).2.2.1); (try have hG2 := (cells_heap hC2).2.2.2.1); (try have hC3 := hS.cell (i := 3) rfl); (try have hD3 := (cells_heap hC3).1); (try have hE3 := (cells_heap hC3).2.1); (try have hF3 := (cells_heap hC3).2.2.1); (try have hG3 := (cells_heap hC3).2.2.2.1); (try have hC4 := hS.cell (i := 4) rfl); (try have hD4 := (cells_heap hC4).1); (try have hE4 := (cells_heap hC4).2.1); (try have hF4 := (cells_heap hC4).2.2.1); (try have hG4 := (cells_heap hC4).2.2.2.1); (try have hM0 := hS.map (i := 0) rfl); (try have hM1 := hS.map (i := 1) rfl); (try have hM2 := hS.map (i := 2) rfl); (try have hM3 := hS.map (i := 3) rfl); (try have hM4 := hS.map (i := 4) rfl))
            | (show WL _ _ _ _ _ _ _; first | apply WL.nil | (refine WL.au (k := ?_)) | (apply WL.index tOk; (iterate 8 exact rfl); assumption; (exact extA); exact rfl; omega; assumption; intro b off h; have hcc := h; first | (obtain ⟨h1, h2, h3, h4, h5, h6, _⟩ := h) | (obtain ⟨h1, h2, h3, _⟩ := h) | (obtain ⟨h1, h2, _⟩ := h) | (obtain ⟨h1, _⟩ := h)))
            | (show Z _ _ _ _ _; first | apply Z.then_normal | apply Z.block_normal)
            | (show W _ _ _ _ _ _; first | apply W.seq | apply W.region | apply W.block | apply W.skip)
            | fail)
          exact Z.againO a' cap' ⟨by omega, by assumption, a8, cap8, by rw [e3, e1]; exact hS⟩ (by repeat' first | exact trivial | (refine And.intro ?_ ?_) | exact rfl | (rw [e1]; exact rfl) | (rw [e2']; exact rfl))
    · obtain rfl : k = n.length := by omega
      repeat' (first
        | (apply W.condKF; exact rfl; (focus (exact dec_false (by omega); done)))
        | (show WL _ _ _ _ _ _ _; first | apply WL.nil | (refine WL.au (k := ?_)))
        | (show Z _ _ _ _ _; first | apply Z.then_normal | apply Z.then_exit | apply Z.block_exit)
        | (show W _ _ _ _ _ _; first | apply W.seq | apply W.region | apply W.ret | apply W.exit)
        | fail)
      exact Z.body1 Try.results64 rfl fun m => ⟨hX9.at m, a2, cap2, la, lc, rfl, hS9.ext ((Ext.refl _).at m)⟩
end Go.Proofs.Yteidpnpbfagaeaa
namespace Go.Proofs.Yteidpnpbfagaeaa
open Go Go.Lt Go.RowKit
set_option linter.unusedVariables false
set_option linter.unusedSimpArgs false
set_option maxRecDepth 20000

set_option maxHeartbeats 4000000 in
theorem ref34_of (c : CirT) (hg : GoodC' c) (hn : (cNet c).1.length ≤ 300000) (aO aA al : Option Addr) (cO cA cl : Nat) (l : List Int) (w : World) (RO : Row 1 encI w aO (own0 c)) (RA : Row 1 encI w aA (cNet c).2) (R : Row 1 encI w al l) (hl : ∀ x ∈ l, KnL c x) (hll : l.length ≤ 1048576) :
    Lt.Spec Try.prog 65 [.slice aO (own0 c).length cO, .slice aA (cNet c).2.length cA, .slice al l.length cl] w (IsFresh 1 encI 3 w (askM c l)) := by
  obtain ⟨o1, o2, o3⟩ := own0_ok hg
  refine Spec.of _ Try.func65 rfl Try.ntmps65 (by kernel_rfl) rfl ?_
  repeat' (first
    | (apply WL.lit (len := 0) tOk; (iterate 6 exact rfl); (first | exact rfl | kernel_rfl | (simp [Instr.fill, catCells]; done)); exact rfl; intro gb w' hb hge hc hx; have hO0 := Own.of_block0 (enc := encI) (s := 1) hb hge)
    | (show WL _ _ _ _ _ _ _; first | apply WL.nil | (refine WL.au (k := ?_)))
    | (show Z _ _ _ _ _; apply Z.then_normal)
    | (show W _ _ _ _ _ _; first | apply W.seq | apply W.region | apply W.block)
    | fail)
  refine W.loopO l.length (fun j b cp w' => j ≤ l.length ∧ Ext w w' ∧ Own 1 encI 3 w.heap.size w' b cp (askM c (l.take j)))
    (fun j b cp => [(0, .slice aO (own0 c).length cO), (1, .slice aA (cNet c).2.length cA), (2, .slice al l.length cl), (7, .slice b (askM c (l.take j)).length cp), (8, .int .i64 j)]) (some ⟨gb, 0, none⟩) 0 ⟨Nat.zero_le _, hx, hO0⟩ (fun k a cp w' h => h.1) (by repeat' first | exact trivial | (refine And.intro ?_ ?_) | exact rfl) ?_
  clear hO0
  rintro j bb cp w1 ⟨hj, hX1, hO1⟩
  have htl : (askM c (l.take j)).length = min j l.length := by rw [askM_len, List.length_take]
  by_cases hlt : j < l.length
  · obtain ⟨x, hx⟩ := getI l hlt
    have hxk := hl x (List.mem_of_getElem? hx)
    obtain ⟨z, hz1, hz2, hz3, hz4⟩ := knL_lit hg hxk
    obtain ⟨y, hy⟩ := getI (own0 c) (show (z / 2).toNat < (own0 c).length by omega)
    have hyh := o2 y (List.mem_of_getElem? hy)
    have hr : 0 ≤ y ∧ y ≤ 9223372036854775806 := by unfold hasL at hyh; omega
    have hx0 := hxk.1
    have hxm := knL_max hg hxk
    have hcm := hg.max.2
    have e0 : askL c (own0 c) x = xorI y (x % 2) := by rw [askL_eq hg _ hz1 hz2 hz3, getD_of hy]
    have e1 : askM c (l.take (j + 1)) = askM c (l.take j) ++ [xorI y (x % 2)] := by unfold askM; rw [take_succ' hx, List.map_append, List.map_singleton, e0]
    have hBC : ∀ q, blk bb = some q → w.heap.size ≤ q := fun q hq => (hO1.blk_lt q hq).1
    repeat' (first
      | (apply W.condKT; exact rfl; (focus (exact dec_true (by omega); done)))
      | (show W _ _ (.region 5 _ _) _ _ _; apply W.regionGB (.fl true 0 (.fl true 1 (.fl true 2 (.fl true 3 (.fl true 4 (.fl true 5 (.fl true 13 (.fl true 14 (.fl true 15 (.fl false 6 (.fl true 7 (.fl true 8 (.fl false 9 (.fl true 10 (.fl true 11 (.fl false 12 (.fl false 16 (.fl true 17 (.fl true 18 (.fl false 19 (.br 20 (.br 21 (.fl true 22 .done) .stop) .stop))))))))))))))))))))) [8, 9, 10, 11, 12, 16, 17, 18, 19, 20, 21] (blk bb) tMix; kernel_rfl)
      | (apply SG.flS; exact rfl; (focus ((intro m; first | assumption | (apply Ext.at; (exact extA)) | apply But.of_at; first | exact But.upd (by assumption) | exact But.ext (by (exact extA)) | (refine But.trans ?_ (But.upd (by assumption)); exact But.ext (by (exact extA))) | exact But.at _ _ _); done)); (iterate 4 exact rfl); (focus (intro w9 hw9; exact ref34_turnedX y x _ hr)))
      | (apply WL.lit tOk; (iterate 6 exact rfl); (first | exact rfl | kernel_rfl | (simp [Instr.fill, catCells]; done)); exact rfl; intro gb w' hb hge hc hx; (obtain ⟨wL, rfl⟩ : ∃ x, x = w' := ⟨_, rfl⟩; obtain ⟨hxL, rfl⟩ : ∃ x, x = hx := ⟨_, rfl⟩))
      | (apply WL.append1 tOk encI_ok; (iterate 10 exact rfl); assumption; (exact extA); (first | exact rfl | (focus (simp only [List.length_set]; done)) | (focus (simp; done)) | (focus (simp [*]; done)) | omega | (focus (simp only [List.length_set]; omega))); assumption; (first | exact rfl | exact (rfl : encI (_, _) = _)); exact rfl; (exact extA); (first | omega | (simp; omega) | (simp at *; omega)); intro a' cap' w' hO hX' hU hF)
      | (show WL _ _ _ _ _ _ _; first | apply WL.nil | (refine WL.au (k := ?_)))
      | (show SG _ _ _ _ _ _ _ _ _; first | apply SG.done | (apply SG.fl0; exact rfl) | (apply SG.fl1; exact rfl; (focus ((intro m; first | assumption | (apply Ext.at; (exact extA)) | apply But.of_at; first | exact But.upd (by assumption) | exact But.ext (by (exact extA)) | (refine But.trans ?_ (But.upd (by assumption)); exact But.ext (by (exact extA))) | exact But.at _ _ _); done))) | (apply SG.br1; exact rfl))
      | (show FL _ _ _ _ _ _ _ _; first | apply FL.nilS | (refine FL.au (k := ?_)) | (apply FL.loadG tOk; (iterate 5 exact rfl); (first | assumption | (focus (apply Ext.cell; rotate_left; assumption; (exact extA); done))); (first | (focus (intro h; cases h; done)) | (focus (intro h; have h9 := hBC _ h; (try simp only at h9); omega)) | assumption | (focus (intro h; simp only [blk, Option.map_some, Option.some.injEq] at h; omega)))) | (apply FL.index tOk; (iterate 8 exact rfl); assumption; (exact extA); exact rfl; omega; assumption; exact List.cons_ne_nil _ _; intro b off h hbl; have hcc := h; first | (obtain ⟨h1, h2, h3, h4, h5, h6, _⟩ := h) | (obtain ⟨h1, h2, h3, _⟩ := h) | (obtain ⟨h1, h2, _⟩ := h) | (obtain ⟨h1, _⟩ := h)))
      | (show Z _ _ _ _ _; (apply Z.sgE; (focus ((intro m; first | assumption | (apply Ext.at; (exact extA)) | apply But.of_at; first | exact But.upd (by assumption) | exact But.ext (by (exact extA)) | (refine But.trans ?_ (But.upd (by assumption)); exact But.ext (by (exact extA))) | exact But.at _ _ _); done))))
      | (show Z _ _ _ _ _; first | apply Z.then_normal | apply Z.block_normal)
      | (show W _ _ _ _ _ _; first | apply W.seq | apply W.region | apply W.block | apply W.skip)
      | fail)
    exact Z.againO a' cap' ⟨by omega, hX', by rw [e1]; exact hO⟩ (by repeat' first | exact trivial | (refine And.intro ?_ ?_) | exact rfl | (rw [e1]; exact rfl))
  · obtain rfl : j = l.length := by omega
    rw [List.take_length] at hO1
    repeat' (first
      | (apply W.condKF; exact rfl; (focus (exact dec_false (by omega); done)))
      | (show WL _ _ _ _ _ _ _; first | apply WL.nil | (refine WL.au (k := ?_)))
      | (show Z _ _ _ _ _; first | apply Z.then_normal | apply Z.then_exit | apply Z.block_exit)
      | (show W _ _ _ _ _ _; first | apply W.seq | apply W.region | apply W.ret | apply W.exit)
      | fail)
    exact Z.body1 Try.results65 rfl fun m => ⟨hX1.at m, bb, cp, by rw [List.take_length], hO1.ext ((Ext.refl _).at m)⟩
end Go.Proofs.Yteidpnpbfagaeaa
namespace Go.Lt
open Go.RowKit
set_option linter.unusedVariables false
section
variable {P : Program}
theorem run_sliceLH {T : Tab} {t : TypeId} (hT : OkTab P T) {ti : TI} {el : TypeId} {ei : TI} {ao : Option Addr} {n cap : Nat} {k k' : IntKind} {lo hi : Int} (ht : tget T t = some ti) (htd : ti.desc = .slice el) (he : tget T el = some ei) (h0 : 0 ≤ lo ∧ lo ≤ hi) (h1 : hi ≤ cap) (w : World) :
    (Instr.sliceAt t (.slice ao n cap) (some (.int k lo)) (some (.int k' hi)) none).run P w = .ok (.slice (if cap = lo.toNat then ao else ao.map (·.add (lo.toNat * ei.size))) (hi.toNat - lo.toNat) (cap - lo.toNat)) w := by
  have e1 := run_underlying' (hT.at ht); rw [htd] at e1
  have e2 := run_sizeOf' (hT.at he)
  have e3 : 0 ≤ hi := by omega
  simp [Instr.sliceAt, Instr.slice, e1, e2, Instr.sliceBounds, Instr.sliceBound, asIntOf, h0.1, e3, h1]
  intro hh; exfalso; omega
end
section rules
variable {P : Program} {N : Nat} {e : Env} {w : World} {Q : Exit → Act → World → Prop} {ops : List Oper} {l : List Oper} {T : Tab}
  {d : Nat} {tt ty : TypeId} {ps : String} {af : Array Edge} {g : Option (Nat × Bool)} {t : TypeId} {α : Type} {s : Nat} {enc : α → List Value} {B : Nat} {ti ei : TI} {el : TypeId} {C : World → Prop}
end rules
end Go.Lt
namespace Go.Lt
open Go.RowKit
set_option linter.unusedVariables false
set_option linter.unusedSimpArgs false
section
variable {P : Program} {e : Env} {dd : Option Tmp} {t ty tt : TypeId} {x y : Operand} {ps : String} {af : Array Edge} {g : Option (Nat × Bool)} {a b : Int} {u v : BitVec 64}
variable {N d : Nat} {w : World} {Q : Exit → Act → World → Prop} {C : World → Prop} {Kf : Act → Prop} {ops l : List Oper}
end
section
variable {P : Program} {N : Nat} {e : Env} {w : World} {Q : Exit → Act → World → Prop} {ops : List Oper} {l : List Oper} {T : Tab}
  {d : Nat} {tt ty : TypeId} {ps : String} {af : Array Edge} {g : Option (Nat × Bool)} {t : TypeId} {α : Type} {s : Nat} {enc : α → List Value} {ti ei : TI} {el : TypeId}
/-- l[lo:hi] of a row. -/
theorem WL.sliceR {x y z : Operand} {a : Option Addr} {xs : List α} {n cap : Nat} {kk k2 : IntKind} {lo hi : Int} {w0 : World} (hT : OkTab P T) (hg : gate ops e g = some true) (hd : Nat.blt d N = true)
    (hx : ev e x = some (.slice a n cap)) (hy : ev e y = some (.int kk lo)) (hz : ev e z = some (.int k2 hi)) (ht : tget T t = some ti) (htd : ti.desc = .slice el) (he : tget T el = some ei) (hs : ei.size = s)
    (R : Row s enc w0 a xs) (hn : xs.length = n) (hc : xs.length ≤ cap) (h0 : 0 ≤ lo ∧ lo ≤ hi ∧ hi ≤ xs.length)
    (k : ∀ a' cap', Row s enc w0 a' ((xs.drop lo.toNat).take (hi - lo).toNat) → ((xs.drop lo.toNat).take (hi - lo).toNat).length ≤ cap' → WL P N ops.toArray l ((d, .slice a' ((xs.drop lo.toNat).take (hi - lo).toNat).length cap') :: e) w Q) : WL P N ops.toArray (⟨some d, .slice t x (some y) (some z) none, tt, ps, af, g⟩ :: l) e w Q := by
  have el1 : ((xs.drop lo.toNat).take (hi - lo).toNat).length = hi.toNat - lo.toNat := by rw [List.length_take, List.length_drop]; omega
  refine WL.step hg hd ?_ (k _ (cap - lo.toNat) ((R.dropAt lo.toNat cap hc).take (hi - lo).toNat) (by rw [el1]; omega))
  refine Yields.in ?_
  intro ρ hρ w'
  have := run_sliceLH (P := P) hT (t := t) (ao := a) (n := n) (cap := cap) (k := kk) (k' := k2) (lo := lo) (hi := hi) ht htd he (by omega) (by omega) w'
  rw [hs] at this
  simp [execOp, hρ _ _ hx, hρ _ _ hy, hρ _ _ hz, this]
  omega
end
end Go.Lt
namespace Go.Proofs.Yteidpnpbfagaeaa
open Go Go.Lt Go.RowKit
set_option linter.unusedVariables false
set_option linter.unusedSimpArgs false
set_option maxRecDepth 20000

theorem Sep.askOrd4 {B : Nat} {w : World} {pw s0 s1 po : Piece} (hS : Lt.Sep B w [pw, s0, s1, po]) : Lt.Sep B w [s0, s1, po, pw] := by
  refine hS.pick (fun i => ([1, 2, 3, 0] : List Nat).getD i 8) (fun i x h => ?_) (fun i j hi hj hne => ?_)
  · match i, h with
    | 0, h => exact h
    | 1, h => exact h
    | 2, h => exact h
    | 3, h => exact h
    | i + 4, h => simp at h
  · have key : ∀ i, i < 4 → ∀ j, j < 4 → i ≠ j → ([1, 2, 3, 0] : List Nat).getD i 8 ≠ ([1, 2, 3, 0] : List Nat).getD j 8 := by decide
    exact key i hi j hj hne
set_option maxHeartbeats 16000000 in
theorem ref34_Ask (c : Circ) (prop : Int) (near : Bool) (ro ri : Option Addr) (co ci : Nat) (out into : List (RowV Int)) (w : World) (hC : CAt w c) (hg : GoodC' c.t) (hz : SzC c.t 100000) (Ro : Row 1 encRow w ro out) (Ri : Row 1 encRow w ri into) (hro : ∀ r ∈ out, Row 1 encI w r.1 r.2.2) (hri : ∀ r ∈ into, Row 1 encI w r.1 r.2.2) (ho : CubesOk c.t (cubes out)) (hi : CubesOk c.t (cubes into)) :
    Lt.Spec Try.prog 12 [c.val, .int .i64 prop, .slice ro out.length co, .slice ri into.length ci, .bool near] w (IsAsk w (askV c.t prop near (cubes out) (cubes into))) := by
  have hnl := net_len hg hz
  have hng := (cNet_ok hg).2
  have z4 : c.bads.2.2.length ≤ 100000 := hz.2.2.2.1
  obtain ⟨o1, o2, o3⟩ := own0_ok hg
  have z5 : c.cons.2.2.length ≤ 100000 := hz.2.2.2.2.1
  refine Spec.of _ Try.func12 rfl Try.ntmps12 (by kernel_rfl) rfl ?_
  repeat' (first
    | (apply WL.box; (iterate 3 exact rfl); intro gb w' hb hge hc hx; have hcc := hc; (first | (obtain ⟨h1, h2, h3, _⟩ := hc) | (obtain ⟨h1, h2, _⟩ := hc)); (first | (have h_0 := hcells; clear h_0; obtain ⟨gs, rfl⟩ : ∃ x, x = gb := ⟨_, rfl⟩; obtain ⟨w5, rfl⟩ : ∃ x, x = w' := ⟨_, rfl⟩; obtain ⟨hx5, rfl⟩ : ∃ x, x = hx := ⟨_, rfl⟩; obtain ⟨hb5, rfl⟩ : ∃ x, x = hb := ⟨_, rfl⟩; obtain ⟨hge5, rfl⟩ : ∃ x, x = hge := ⟨_, rfl⟩) | (obtain ⟨gc, rfl⟩ : ∃ x, x = gb := ⟨_, rfl⟩; obtain ⟨wc, rfl⟩ : ∃ x, x = w' := ⟨_, rfl⟩; obtain ⟨hxc, rfl⟩ : ∃ x, x = hx := ⟨_, rfl⟩; have hcells : Cells wc gc 0 c.vals := hcc)))
    | (apply WL.build tOk; (iterate 7 exact rfl); kernel_rfl)
    | (((show WL _ _ _ (⟨_, .call ⟨.value (.func 63), _, _⟩, _, _, _, _⟩ :: _) _ _ _); apply WL.call; (iterate 4 exact rfl); exact ref11_Net c _ (hC.ext (by (exact extA))) hg hz; rintro v' w4 ⟨hx4, aN, cN, aA, cA, rfl, hON, hOA⟩))
    | (show WL _ _ _ _ _ _ _; first | apply WL.nil | (refine WL.au (k := ?_)))
    | (show Z _ _ _ _ _; apply Z.then_normal)
    | (show W _ _ _ _ _ _; first | apply W.seq | apply W.region)
    | fail)
  have hX14 : Ext w w4 := (by (exact extA))
  have hc4 : Cells w4 gc 0 c.vals := hcells.ext (by (exact extA))
  have RA : Row 1 encI w4 aA (cNet c.t).2 := hOA.row encI_ok
  have RN : Row 2 encN w4 aN (cNet c.t).1 := hON.row encN_ok
  have hcat4 := hC.ext hX14
  have hb5' : w5.heap[gs]? = some (.cells #[.slice none ([] : List (Int × Int)).length 0] 102 (0, 0)) := hb5
  have hS5 : Lt.Sep w4.heap.size w5 (rsN w4.heap.size gs none 0 [] ++ []) := Sep.newCell (Sep.newRow Sep.none' (Ext.refl _) Own.nil (fun k hk => by cases hk) (Nat.le_refl _)) hx5 hb5' hge5 (Nat.le_refl _)
  have hcp : Lt.Spec Try.prog 64 [.pointer (some ⟨gs, 0, none⟩), .slice aN (cNet c.t).1.length cN, .slice none 0 0] w5 (AtCopyR w4 gs [] (own0 c.t, net0 c.t)) :=
    rs_Copy gs 0 cN 0 none aN none [] (cNet c.t).1 [] _ w5 w4 hx5 hS5 (by simp only [List.length_nil]; omega) hng (fun w' a' cap' N' h1 h2 => RN.ext h1) (fun w' a' cap' N' h1 h2 => Row.nil _ _ _ _)
  have RC := hcat4.cons.row
  have hofs := fun (w9 : World) (aO : Option Addr) (cO : Nat) (RO : Row 1 encI w9 aO (own0 c.t)) (h9 : Ext w4 w9) (al : Option Addr) (cl : Nat) (l : List Int) (R : Row 1 encI w9 al l) (hl : ∀ x ∈ l, KnL c.t x) (hll : l.length ≤ 1048576) => ref34_of c.t hg hnl aO aA al cO cA cl l w9 RO (RA.ext h9) R hl hll
  have hcons : ∀ x ∈ c.cons.2.2, KnL c.t x := fun x hx => knL_used hg (List.mem_append_left _ (List.mem_append_left _ (List.mem_append_right _ hx)))
  clear hb5 hb hcc h1 h2 h3 hOA hON
  have RB := hcat4.bads.row
  have hcB := hcat4.bads.cap
  obtain ⟨g0, hg0⟩ : ∃ g0, g0 = goal0 c.t prop near := ⟨_, rfl⟩
  have hg0h : hasL (net0 c.t) g0 := by rw [hg0]; exact goal0_has hg prop near
  have four : (near = true ∧ 0 ≤ prop ∧ prop < (c.bads.2.2.length : Int)) ∨ (near = true ∧ 0 ≤ prop ∧ ¬ prop < (c.bads.2.2.length : Int)) ∨ (near = true ∧ ¬ 0 ≤ prop) ∨ near = false := by
    cases near
    · exact .inr (.inr (.inr rfl))
    · by_cases h1 : 0 ≤ prop
      · by_cases h2 : prop < (c.bads.2.2.length : Int)
        · exact .inl ⟨rfl, h1, h2⟩
        · exact .inr (.inl ⟨rfl, h1, h2⟩)
      · exact .inr (.inr (.inl ⟨rfl, h1⟩))
  rcases four with ⟨q0, q1, q2⟩ | ⟨q0, q1, q2⟩ | ⟨q0, q1⟩ | q0
  obtain ⟨x, hx⟩ := getI c.bads.2.2 (show prop.toNat < c.bads.2.2.length by omega)
  have hxk : KnL c.t x := knL_used hg (List.mem_append_left _ (List.mem_append_left _ (List.mem_append_left _ (List.mem_append_right _ (List.mem_of_getElem? hx)))))
  have eS : (c.bads.2.2.drop prop.toNat).take (prop + 1 - prop).toNat = [x] := by
    rw [show (prop + 1 - prop).toNat = 1 by omega]
    apply List.ext_getElem?
    intro j
    rw [List.getElem?_take, List.getElem?_drop]
    match j with
    | 0 => rw [if_pos (by omega), Nat.add_zero, hx]; rfl
    | j + 1 => rw [if_neg (by omega)]; rfl
  have hkS : ∀ y ∈ (c.bads.2.2.drop prop.toNat).take (prop + 1 - prop).toNat, KnL c.t y := fun y hy => by rw [eS] at hy; rw [List.mem_singleton.1 hy]; exact hxk
  have hlS : ((c.bads.2.2.drop prop.toNat).take (prop + 1 - prop).toNat).length ≤ 1048576 := by rw [eS, List.length_singleton]; omega
  have hz0 : (askM c.t ((c.bads.2.2.drop prop.toNat).take (prop + 1 - prop).toNat))[(0 : Int).toNat]? = some (askL c.t (own0 c.t) x) := by rw [eS]; rfl
  have hz0l : 0 < (askM c.t ((c.bads.2.2.drop prop.toNat).take (prop + 1 - prop).toNat)).length := by rw [eS]; exact Nat.zero_lt_one
  have e21 : (goalK c.t g0 near (cubes into) 0).1 = askL c.t (own0 c.t) x := by rw [goalK_0, hg0]; unfold goal0; rw [if_pos ⟨q0, q1, q2⟩, getD_of hx]
  repeat' (first
    | (((show WL _ _ _ (⟨_, .call ⟨.value (.func 64), _, _⟩, _, _, _, _⟩ :: _) _ _ _); apply WL.call; (iterate 4 exact rfl); exact hcp; rintro v' w8 ⟨hX8, a8, cap8, aO, cO, rfl, hS⟩; have hc8 := hc4.ext hX8; obtain ⟨u0, u1, u2, u3, u4, u5, _⟩ := id hc8; have RB8 := RB.ext hX8))
    | (apply WL.call; (iterate 4 exact rfl); exact hofs _ aO cO (Own.row encI_ok (hS.row (i := 2) rfl)) hX8 _ _ c.cons.2.2 (RC.ext hX8) hcons (by omega); rintro v' w' ⟨hx, a', cap', rfl, hO⟩; (obtain ⟨bW, rfl⟩ : ∃ x, x = a' := ⟨_, rfl⟩; obtain ⟨cW, rfl⟩ : ∃ x, x = cap' := ⟨_, rfl⟩; obtain ⟨w14, rfl⟩ : ∃ x, x = w' := ⟨_, rfl⟩; obtain ⟨hx14, rfl⟩ : ∃ x, x = hx := ⟨_, rfl⟩; obtain ⟨hOW, rfl⟩ : ∃ x, x = hO := ⟨_, rfl⟩; have hX14' : Ext w4 w14 := hX8.trans hx14; have hc14 := hc4.ext hX14'; obtain ⟨v0, v1, v2, v3, v4, v5, _⟩ := id hc14; have RB14 := RB.ext hX14'))
    | (apply WL.gT; exact rfl; exact rfl; (focus (first | exact q0 | exact dec_true (by omega) | exact dec_false (by omega); done)))
    | (apply WL.gF; exact rfl; exact rfl; (focus (first | exact q0 | exact dec_true (by omega) | exact dec_false (by omega); done)))
    | (apply W.condKT; exact rfl; (focus (first | exact q0 | exact dec_true (by omega) | exact dec_false (by omega); done)))
    | (apply W.condKF; exact rfl; (focus (first | exact q0 | exact dec_true (by omega) | exact dec_false (by omega); done)))
    | (apply WL.sliceR tOk; (iterate 9 exact rfl); assumption; (first | exact rfl | (focus (simp only [List.length_set]; done)) | (focus (simp; done)) | (focus (simp [*]; done)) | omega | (focus (simp only [List.length_set]; omega))); (first | assumption | omega); (first | omega | (simp; omega) | (simp at *; omega)); intro a' cap' hR hc; (obtain ⟨aS, rfl⟩ : ∃ x, x = a' := ⟨_, rfl⟩; obtain ⟨cS, rfl⟩ : ∃ x, x = cap' := ⟨_, rfl⟩; obtain ⟨hRS, rfl⟩ : ∃ x, x = hR := ⟨_, rfl⟩))
    | (apply WL.call; (iterate 4 exact rfl); exact hofs _ aO cO ((Own.row encI_ok (hS.row (i := 2) rfl)).ext hx14) hX14' _ _ ((c.bads.2.2.drop prop.toNat).take (prop + 1 - prop).toNat) (hRS.ext (by (exact extA))) hkS hlS; rintro v' w' ⟨hx, a', cap', rfl, hO⟩; (obtain ⟨aT, rfl⟩ : ∃ x, x = a' := ⟨_, rfl⟩; obtain ⟨cT, rfl⟩ : ∃ x, x = cap' := ⟨_, rfl⟩; obtain ⟨wT, rfl⟩ : ∃ x, x = w' := ⟨_, rfl⟩; obtain ⟨hxT, rfl⟩ : ∃ x, x = hx := ⟨_, rfl⟩; obtain ⟨hOT, rfl⟩ : ∃ x, x = hO := ⟨_, rfl⟩; have RT := hOT.row encI_ok))
    | (show WL _ _ _ _ _ _ _; first | apply WL.nil | (refine WL.au (k := ?_)) | (apply WL.index tOk; (iterate 8 exact rfl); assumption; (exact extA); exact rfl; omega; assumption; intro b off h; have hcc := h; first | (obtain ⟨h1, h2, h3, h4, h5, h6, _⟩ := h) | (obtain ⟨h1, h2, h3, _⟩ := h) | (obtain ⟨h1, h2, _⟩ := h) | (obtain ⟨h1, _⟩ := h)) | (apply WL.guardF; exact rfl; exact rfl))
    | (show Z _ _ _ _ _; apply Z.then_normal)
    | (show W _ _ _ _ _ _; first | apply W.seq | apply W.region | apply W.block | apply W.skip | (apply W.condF; exact rfl))
    | fail)
  have hxT := hxT
  rotate_left
  have e21 : (goalK c.t g0 near (cubes into) 0).1 = 0 := by rw [goalK_0, hg0]; unfold goal0; rw [if_neg (fun h => q2 h.2.2)]
  skip
  have hxT : Ext w14 w14 := Ext.refl _
  rotate_left
  have e21 : (goalK c.t g0 near (cubes into) 0).1 = 0 := by rw [goalK_0, hg0]; unfold goal0; rw [if_neg (fun h => q1 h.2.1)]
  skip
  have hxT : Ext w14 w14 := Ext.refl _
  rotate_left
  have e21 : (goalK c.t g0 near (cubes into) 0).1 = 0 := by rw [goalK_0, hg0]; unfold goal0; rw [if_neg (fun h => by rw [q0] at h; cases h.1)]
  skip
  have hxT : Ext w14 w14 := Ext.refl _
  rotate_left
  all_goals
    have hS15 : Lt.Sep w4.heap.size w14 (rsN w4.heap.size gs a8 cap8 (net0 c.t) ++ [prow 1 encI 3 w4.heap.size aO cO (own0 c.t), prow 1 encI 3 w4.heap.size bW cW (askM c.t c.cons.2.2)]) := Sep.askOrd4 (Sep.newRow' hS hx14 hOW (Below.size hX8))
    refine W.loopO into.length (fun k b cp w' => k ≤ into.length ∧ Ext w4 w' ∧ Lt.Sep w4.heap.size w' (rsN w4.heap.size gs b cp (goalK c.t g0 near (cubes into) k).2 ++ [prow 1 encI 3 w4.heap.size aO cO (own0 c.t), prow 1 encI 3 w4.heap.size bW cW (askM c.t c.cons.2.2)]))
      (fun k b cp => [(2, .slice ro out.length co), (3, .slice ri into.length ci), (4, .bool near), (5, .pointer (some ⟨gc, 0, none⟩)), (13, .slice aA (cNet c.t).2.length cA), (14, .pointer (some ⟨gs, 0, none⟩)), (15, .slice aO (own0 c.t).length cO), (16, .slice bW (askM c.t c.cons.2.2).length cW), (17, .int .i64 (goalK c.t g0 near (cubes into) k).1), (18, .int .i64 k)]) a8 cap8 ⟨Nat.zero_le _, hX14'.trans hxT, by rw [goalK_0]; exact hS15.ext hxT⟩ (fun k a cp w' h => h.1) (by repeat' first | exact trivial | (refine And.intro ?_ ?_) | exact rfl | (rw [e21]; exact rfl)) ?_
    clear hS15 hS hOW hc14 hc8 v0 v1 v2 v3 v4 v5 u0 u1 u2 u3 u4 u5 RB8 RB14
    rintro k b2 c2 w15 ⟨hk, hX15, hS15⟩
    have hcl : (cubes into).length = into.length := List.length_map _
    have h20i := hi.2
    rcases (show (near = false ∧ k < into.length) ∨ (near = true ∧ k < into.length) ∨ ¬ k < into.length by cases near <;> by_cases h : k < into.length <;> simp [h]) with ⟨hnr, hlt⟩ | ⟨hnr, hlt⟩ | hlt
    · obtain ⟨q, hq⟩ := getI into hlt
      have hqm := List.mem_of_getElem? hq
      have hqc : (cubes into)[k]? = some q.2.2 := by unfold cubes; rw [List.getElem?_map, hq]; rfl
      have hqo := hi.1 q.2.2 (List.mem_of_getElem? hqc)
      have Ri15 := Ri.ext hX14
      have Rq := (hri q hqm).ext hX14
      have hnt : ¬ near = true := fun h => by rw [hnr] at h; cases h
      have e1 : goalK c.t g0 near (cubes into) (k + 1) = goalS c.t (goalK c.t g0 near (cubes into) k) q.2.2 := by unfold goalK; rw [if_neg hnt, if_neg hnt]; exact goalTo_succ hqc
      have hkn : (!near) = true := by rw [hnr]; rfl
      obtain ⟨i1, i2, i3⟩ := goalK_inv hg hg0h near hi (show k ≤ (cubes into).length by omega)
      obtain ⟨G, hG⟩ : ∃ G, G = goalK c.t g0 near (cubes into) k := ⟨_, rfl⟩
      rw [← hG] at hS15 i1 i2 i3 e1 ⊢
      obtain ⟨j1, j2, j3⟩ := allV_has (hasM (askM_has hg (knL_next hg hqo.1)) i2)
      rw [askM_len, nextL_len] at j3
      have h20 := hqo.2
      have hb1 := i1.2
      have hb2 := j1.2
      have h10 := Below.size hX15
      repeat' (first
        | (apply WL.gT; exact rfl; exact rfl; (focus (first | exact dec_true (by omega) | exact hkn; done)))
        | (apply W.condKT; exact rfl; (focus (first | exact dec_true (by omega) | exact hkn; done)))
        | (show W _ _ (.region 10 _ _) _ _ _; apply W.regionG (.fl true 0 (.fl true 1 (.fl true 2 (.fl true 4 (.fl true 5 (.fl true 6 (.fl false 3 (.fl false 7 (.br 8 (.br 9 (.br 10 (.fl true 11 .done) .stop) .stop) .stop))))))))) [7, 9, 10] (Ext w4) tMix; kernel_rfl)
        | (((show WL _ _ _ (⟨_, .call ⟨.value (.func 67), _, _⟩, _, _, _, _⟩ :: _) _ _ _); apply WL.call; (iterate 4 exact rfl); exact ref34_Next c _ _ q.2.2 _ (hcat4.ext hX15) hg (Rq.ext hX15) hqo.1 (by omega); rintro v' w16 ⟨hx16, a16, c16, rfl, hO16⟩; have R16 := hO16.row encI_ok))
        | (((show WL _ _ _ (⟨_, .call ⟨.value (.func 65), _, _⟩, _, _, _, _⟩ :: _) _ _ _); apply WL.call; (iterate 4 exact rfl); exact hofs _ aO cO ((Own.row encI_ok (hS15.row (i := 2) rfl)).ext hx16) (hX15.trans hx16) _ _ (nextL c.t q.2.2) R16 (knL_next hg hqo.1) (by rw [nextL_len]; omega); rintro v' w17 ⟨hx17, a17, c17, rfl, hO17⟩; have hS17 := Sep.back21 (Sep.newRow' (hS15.ext hx16) hx17 hO17 (Nat.le_trans h10 (Below.size hx16)))))
        | (((show WL _ _ _ (⟨_, .call ⟨.value (.func 66), _, _⟩, _, _, _, _⟩ :: _) _ _ _); apply WL.call; (iterate 4 exact rfl); exact rs_All gs _ _ _ a17 G.2 (askM c.t (nextL c.t q.2.2)) _ w17 w4 (hX15.trans (hx16.trans hx17)) hS17 (by rw [askM_len, nextL_len]; omega) (fun w' a' cap' N' h1 h2 => Own.row encI_ok (h2.row (i := 2) rfl)); rintro v' w18 ⟨hX18, a18, cap18, rfl, hS18⟩; have hS18' := Sep.drop22 hS18))
        | (((show WL _ _ _ (⟨_, .call ⟨.value (.func 68), _, _⟩, _, _, _, _⟩ :: _) _ _ _); apply WL.call; (iterate 4 exact rfl); exact rs_Or gs _ _ (allV G.2 (askM c.t (nextL c.t q.2.2))).2 _ _ _ w18 w4 hX18 hS18' (by omega) (by omega) (by omega); rintro v' w19 ⟨hX19, a19, cap19, rfl, hS19⟩))
        | (show WL _ _ _ _ _ _ _; first | apply WL.nil | (refine WL.au (k := ?_)))
        | (show SG _ _ _ _ _ _ _ _ _; first | apply SG.done | (apply SG.fl0; exact rfl) | (apply SG.fl1; exact rfl; (focus ((intro m; first | assumption | (apply Ext.at; (exact extA)) | apply But.of_at; first | exact But.upd (by assumption) | exact But.ext (by (exact extA)) | (refine But.trans ?_ (But.upd (by assumption)); exact But.ext (by (exact extA))) | exact But.at _ _ _); done))) | (apply SG.br1; exact rfl))
        | (show FL _ _ _ _ _ _ _ _; first | (apply FL.loadE tOk; (iterate 5 exact rfl); (first | assumption | (focus (apply Ext.cell; rotate_left; assumption; exact extA; done)))) | (apply FL.loadAE tOk; (iterate 5 exact rfl); assumption; exact rfl) | (apply FL.indexE tOk; (iterate 8 exact rfl); assumption; exact rfl; omega; assumption; intro b off h; have hcc := h; first | (obtain ⟨h1, h2, h3, h4, h5, h6, _⟩ := h) | (obtain ⟨h1, h2, h3, _⟩ := h) | (obtain ⟨h1, h2, _⟩ := h) | (obtain ⟨h1, _⟩ := h)))
        | (show FL _ _ _ _ _ _ _ _; first | apply FL.nilS | (refine FL.au (k := ?_)))
        | (show Z _ _ _ _ _; first | (apply Z.sgL; exact rfl) | (apply Z.sgE; (focus ((intro m; first | assumption | (apply Ext.at; (exact extA)) | apply But.of_at; first | exact But.upd (by assumption) | exact But.ext (by (exact extA)) | (refine But.trans ?_ (But.upd (by assumption)); exact But.ext (by (exact extA))) | exact But.at _ _ _); done))))
        | (show Z _ _ _ _ _; first | apply Z.then_normal | apply Z.block_normal)
        | (show W _ _ _ _ _ _; first | apply W.seq | apply W.region | apply W.block | apply W.skip)
        | fail)
      all_goals
        exact Z.againO a19 cap19 ⟨by omega, hX19, by rw [e1]; exact hS19⟩ (by repeat' first | exact trivial | (refine And.intro ?_ ?_) | exact rfl | (rw [e1]; exact rfl))
    have hGk : goalK c.t g0 near (cubes into) k = goalV c.t prop near (cubes into) := by rw [goalK_v, ← hg0]; unfold goalK; rw [if_pos hnr, if_pos hnr]
    have hkn : (!near) = false := by rw [hnr]; rfl
    rotate_left
    have hGk : goalK c.t g0 near (cubes into) k = goalV c.t prop near (cubes into) := by rw [goalK_v, ← hg0, hcl, show k = into.length by omega]
    have hkn := hlt
    rotate_left
    all_goals
      obtain ⟨i1, i2, i3⟩ := goalK_inv hg hg0h near hi (show k ≤ (cubes into).length by omega)
      rw [hGk] at hS15 i1 i2 i3 ⊢
      obtain ⟨G, hG⟩ : ∃ G, G = goalV c.t prop near (cubes into) := ⟨_, rfl⟩
      rw [← hG] at hS15 i1 i2 i3 ⊢
      have hOW : Own 1 encI 3 w4.heap.size w15 bW cW (askM c.t c.cons.2.2) := hS15.row (i := 3) rfl
      have hsz15 := Below.size hX15
      have hwl : (askM c.t c.cons.2.2).length = c.cons.2.2.length := askM_len _ _
      repeat' (first
        | (apply WL.gT; exact rfl; exact rfl; (focus (first | exact dec_true (by omega) | exact dec_false (by omega) | exact hkn; done)))
        | (apply WL.gF; exact rfl; exact rfl; (focus (first | exact dec_true (by omega) | exact dec_false (by omega) | exact hkn; done)))
        | (apply W.condKF; exact rfl; (focus (first | exact dec_true (by omega) | exact dec_false (by omega) | exact hkn; done)))
        | (apply WL.lit tOk; (iterate 6 exact rfl); (first | exact rfl | kernel_rfl | (simp [Instr.fill, catCells]; done)); exact rfl; intro gb w' hb hge hc hx; (obtain ⟨wL, rfl⟩ : ∃ x, x = w' := ⟨_, rfl⟩; obtain ⟨hxL, rfl⟩ : ∃ x, x = hx := ⟨_, rfl⟩))
        | (apply WL.append1 (z := (G.1)) tOk encI_ok; (iterate 10 exact rfl); assumption; (exact extA); (first | exact rfl | (focus (simp only [List.length_set]; done)) | (focus (simp; done)) | (focus (simp [*]; done)) | omega | (focus (simp only [List.length_set]; omega))); (first | assumption | (refine Cells.ext ?_ (by assumption); exact extA)); exact rfl; exact rfl; (exact extA); (first | omega | (simp; omega) | (simp at *; omega)); intro a' cap' w' hO hX' hU hF)
        | (show WL _ _ _ _ _ _ _; first | apply WL.nil | (refine WL.au (k := ?_)) | (apply WL.guardF; exact rfl; exact rfl))
        | (show Z _ _ _ _ _; first | apply Z.then_normal | apply Z.then_exit | apply Z.block_exit)
        | (show W _ _ _ _ _ _; first | apply W.seq | apply W.region | apply W.block | apply W.exit | (apply W.condF; exact rfl))
        | fail)
      have hS21 := Sep.updRow (i := 3) rfl hU hO hF hS15 hxL (Nat.le_trans hsz15 (Below.size hxL))
      obtain ⟨s0, hs0⟩ : ∃ s0, s0 = (askM c.t c.cons.2.2 ++ [G.1], G.2) := ⟨_, rfl⟩
      have hS21 : Lt.Sep w4.heap.size w' (rsN w4.heap.size gs b2 c2 (askTo c.t s0 (cubes out) 0).2 ++ [prow 1 encI 3 w4.heap.size aO cO (own0 c.t), prow 1 encI 3 w4.heap.size a' cap' (askTo c.t s0 (cubes out) 0).1]) := by rw [hs0]; exact hS21
      have e0 : (askTo c.t s0 (cubes out) 0).1 = askM c.t c.cons.2.2 ++ [G.1] := by rw [hs0]; rfl
      have i2' : (net0 c.t).length ≤ s0.2.length := by rw [hs0]; exact i2
      have hs01 : s0.1.length = c.cons.2.2.length + 1 := by rw [hs0, List.length_append, askM_len]; rfl
      have hs02 : s0.2.length ≤ (net0 c.t).length + 420 := by rw [hs0]; exact i3
      have hav : askV c.t prop near (cubes out) (cubes into) = askTo c.t s0 (cubes out) out.length := by unfold askV; rw [hs0, hG, show (cubes out).length = out.length from List.length_map _]
      rw [hav]
      refine W.loopO2 out.length (fun k b cp bw cpw w' => k ≤ out.length ∧ Ext w4 w' ∧ Lt.Sep w4.heap.size w' (rsN w4.heap.size gs b cp (askTo c.t s0 (cubes out) k).2 ++ [prow 1 encI 3 w4.heap.size aO cO (own0 c.t), prow 1 encI 3 w4.heap.size bw cpw (askTo c.t s0 (cubes out) k).1]))
        (fun k b cp bw cpw => [(2, .slice ro out.length co), (5, .pointer (some ⟨gc, 0, none⟩)), (13, .slice aA (cNet c.t).2.length cA), (14, .pointer (some ⟨gs, 0, none⟩)), (15, .slice aO (own0 c.t).length cO), (16, .slice bw (askTo c.t s0 (cubes out) k).1.length cpw), (20, .int .i64 k)]) b2 c2 a' cap' ⟨Nat.zero_le _, hX', hS21⟩ (fun k a cp bw cpw w' h => h.1) (by repeat' first | exact trivial | (refine And.intro ?_ ?_) | exact rfl | (rw [e0]; exact rfl)) ?_
      clear hS21 hS15 hOW e0
      rintro k b3 c3 bw cpw w22 ⟨hk, hX22, hS22⟩
      have hol : (cubes out).length = out.length := List.length_map _
      have h20o := ho.2
      obtain ⟨t1, t2, t3, t4⟩ := askTo_inv hg i2' ho k (by omega)
      by_cases hlt : k < out.length
      · obtain ⟨q, hq⟩ := getI out hlt
        have hqm := List.mem_of_getElem? hq
        have hqc : (cubes out)[k]? = some q.2.2 := by unfold cubes; rw [List.getElem?_map, hq]; rfl
        have hqo := ho.1 q.2.2 (List.mem_of_getElem? hqc)
        have Ro22 := Ro.ext hX14
        have Rq := (hro q hqm).ext hX14
        have e1 := askTo_succ (c := c.t) (s := s0) hqc
        obtain ⟨H, hH⟩ : ∃ H, H = askTo c.t s0 (cubes out) k := ⟨_, rfl⟩
        rw [← hH] at hS22 t1 t2 t3 t4 e1 ⊢
        obtain ⟨j1, j2, j3⟩ := allV_has (hasM (askM_has hg (knL_here hg hqo.1)) t1)
        rw [askM_len, hereL_len] at j3
        have h20 := hqo.2
        have j10 := j1.1
        have j11 := j1.2
        have h10 := Below.size hX22
        have e4 : (askTo c.t s0 (cubes out) (k + 1)).1 = H.1 ++ [notL (allV H.2 (askM c.t (hereL c.t q.2.2))).1] := by rw [e1]; rfl
        repeat' (first
          | (apply W.condKT; exact rfl; (focus (exact dec_true (by omega); done)))
          | (show W _ _ (.region 16 _ _) _ _ _; apply W.regionG (.fl true 0 (.fl true 1 (.fl true 2 (.fl true 3 (.fl true 5 (.fl true 6 (.fl true 7 (.fl false 4 (.fl false 8 (.br 9 (.br 10 (.br 11 (.fl false 12 (.br 13 (.br 14 (.fl true 15 .done) .stop) .stop)) .stop) .stop) .stop)))))))))) [8, 10, 11, 12, 13, 14] (Ext w4) tMix; kernel_rfl)
          | (((show WL _ _ _ (⟨_, .call ⟨.value (.func 70), _, _⟩, _, _, _, _⟩ :: _) _ _ _); apply WL.call; (iterate 4 exact rfl); exact ref34_here c _ _ q.2.2 _ (hcat4.ext hX22) hg (Rq.ext hX22) hqo.1 (by omega); rintro v' w23 ⟨hx23, a23, c23, rfl, hO23⟩; have R23 := hO23.row encI_ok))
          | (((show WL _ _ _ (⟨_, .call ⟨.value (.func 65), _, _⟩, _, _, _, _⟩ :: _) _ _ _); apply WL.call; (iterate 4 exact rfl); exact hofs _ aO cO ((Own.row encI_ok (hS22.row (i := 2) rfl)).ext hx23) (hX22.trans hx23) _ _ (hereL c.t q.2.2) R23 (knL_here hg hqo.1) (by rw [hereL_len]; omega); rintro v' w24 ⟨hx24, a24, c24, rfl, hO24⟩; have hS24 := Sep.back21 (Sep.newRow' (hS22.ext hx23) hx24 hO24 (Nat.le_trans h10 (Below.size hx23)))))
          | (((show WL _ _ _ (⟨_, .call ⟨.value (.func 66), _, _⟩, _, _, _, _⟩ :: _) _ _ _); apply WL.call; (iterate 4 exact rfl); exact rs_All gs _ _ _ a24 H.2 (askM c.t (hereL c.t q.2.2)) _ w24 w4 (hX22.trans (hx23.trans hx24)) hS24 (by rw [askM_len, hereL_len]; omega) (fun w' a' cap' N' h1 h2 => Own.row encI_ok (h2.row (i := 2) rfl)); rintro v' w25 ⟨hX25, a25, cap25, rfl, hS25⟩; have hS25' := Sep.drop22 hS25; have hOW : Own 1 encI 3 w4.heap.size w25 bw cpw H.1 := hS25'.row (i := 3) rfl; have hsz25 := Below.size hX25))
          | (apply SG.flS; exact rfl; (focus ((intro m; first | assumption | (apply Ext.at; (exact extA)) | apply But.of_at; first | exact But.upd (by assumption) | exact But.ext (by (exact extA)) | (refine But.trans ?_ (But.upd (by assumption)); exact But.ext (by (exact extA))) | exact But.at _ _ _); done)); (iterate 4 exact rfl); (focus (intro w9 hw9; exact rs_Not (allV H.2 (askM c.t (hereL c.t q.2.2))).1 _ (by omega))))
          | (apply WL.lit tOk; (iterate 6 exact rfl); (first | exact rfl | kernel_rfl | (simp [Instr.fill, catCells]; done)); exact rfl; intro gb w' hb hge hc hx; (obtain ⟨wM, rfl⟩ : ∃ x, x = w' := ⟨_, rfl⟩; obtain ⟨hxM, rfl⟩ : ∃ x, x = hx := ⟨_, rfl⟩))
          | (apply WL.append1 (z := (notL (allV H.2 (askM c.t (hereL c.t q.2.2))).1)) tOk encI_ok; (iterate 10 exact rfl); assumption; (exact extA); (first | exact rfl | (focus (simp only [List.length_set]; done)) | (focus (simp; done)) | (focus (simp [*]; done)) | omega | (focus (simp only [List.length_set]; omega))); (first | assumption | (refine Cells.ext ?_ (by assumption); exact extA)); exact rfl; exact rfl; (exact extA); (first | omega | (simp; omega) | (simp at *; omega)); intro a' cap' w' hO hX' hU hF)
          | (show WL _ _ _ _ _ _ _; first | apply WL.nil | (refine WL.au (k := ?_)))
          | (show SG _ _ _ _ _ _ _ _ _; first | apply SG.done | (apply SG.fl0; exact rfl) | (apply SG.fl1; exact rfl; (focus ((intro m; first | assumption | (apply Ext.at; (exact extA)) | apply But.of_at; first | exact But.upd (by assumption) | exact But.ext (by (exact extA)) | (refine But.trans ?_ (But.upd (by assumption)); exact But.ext (by (exact extA))) | exact But.at _ _ _); done))) | (apply SG.br1; exact rfl))
          | (show FL _ _ _ _ _ _ _ _; first | (apply FL.loadE tOk; (iterate 5 exact rfl); (first | assumption | (focus (apply Ext.cell; rotate_left; assumption; exact extA; done)))) | (apply FL.loadAE tOk; (iterate 5 exact rfl); assumption; exact rfl) | (apply FL.indexE tOk; (iterate 8 exact rfl); assumption; exact rfl; omega; assumption; intro b off h; have hcc := h; first | (obtain ⟨h1, h2, h3, h4, h5, h6, _⟩ := h) | (obtain ⟨h1, h2, h3, _⟩ := h) | (obtain ⟨h1, h2, _⟩ := h) | (obtain ⟨h1, _⟩ := h)))
          | (show FL _ _ _ _ _ _ _ _; first | apply FL.nilS | (refine FL.au (k := ?_)))
          | (show Z _ _ _ _ _; first | (apply Z.sgL; exact rfl) | (apply Z.sgE; (focus ((intro m; first | assumption | (apply Ext.at; (exact extA)) | apply But.of_at; first | exact But.upd (by assumption) | exact But.ext (by (exact extA)) | (refine But.trans ?_ (But.upd (by assumption)); exact But.ext (by (exact extA))) | exact But.at _ _ _); done))))
          | (show Z _ _ _ _ _; first | apply Z.then_normal | apply Z.block_normal)
          | (show W _ _ _ _ _ _; first | apply W.seq | apply W.region | apply W.block | apply W.skip)
          | fail)
        all_goals
          exact Z.againO2 a25 cap25 a' cap' ⟨by omega, hX', by rw [e1]; exact Sep.updRow (i := 3) rfl hU hO hF hS25' hxM (Nat.le_trans hsz25 (Below.size hxM))⟩ (by repeat' first | exact trivial | (refine And.intro ?_ ?_) | exact rfl | (rw [e4]; exact rfl))
      obtain rfl : k = out.length := by omega
      have RW := Own.row encI_ok (hS22.row (i := 3) rfl)
      have RF := Own.row encN_ok (hS22.row (i := 1) rfl)
      have hC0 := hS22.cell (i := 0) rfl
      obtain ⟨d0, _⟩ := cells_heap hC0
      repeat' (first
        | (apply W.condKF; exact rfl; (focus (exact dec_false (by omega); done)))
        | (apply WL.nilc; (iterate 3 exact rfl))
        | (show WL _ _ _ _ _ _ _; first | apply WL.nil | (refine WL.au (k := ?_)))
        | (show Z _ _ _ _ _; first | apply Z.then_normal | apply Z.then_exit | apply Z.block_exit)
        | (show W _ _ _ _ _ _; first | apply W.seq | apply W.region | apply W.ret | apply W.exit)
        | fail)
      exact Z.body2 Try.results12 rfl rfl fun m => ⟨Ext.at (hX14.trans hX22) m, b3, c3, bw, cpw, rfl, RF.ext ((Ext.refl _).at m), RW.ext ((Ext.refl _).at m)⟩
end Go.Proofs.Yteidpnpbfagaeaa
namespace Go.Proofs.Yteidpnpbfagaeaa
open Go Go.Lt Go.RowKit
set_option linter.unusedVariables false
set_option linter.unusedSimpArgs false
set_option maxRecDepth 20000

section
variable {c : CirT} {s i : List Bool}
theorem litV_xor (h : GoodC' c) {l b : Int} (hl : KnL c l) (hb : b = 0 ∨ b = 1) : litV c s i (xorI l b) = (litV c s i l != decide (b = 1)) := by
  obtain ⟨z, z1, z2, z3, _⟩ := knL_lit h hl
  have h0 := hl.1
  rcases hb with rfl | rfl
  · have e : xorI l 0 = l := by unfold xorI; rw [if_neg (by decide)]
    rw [e]; simp
  · have e : xorI l 1 = Lt.xor1 l := by unfold xorI; rw [if_pos rfl]
    rw [e]
    have e2 : (Lt.xor1 l / 2) = l / 2 := by unfold Lt.xor1; split <;> omega
    have e3 : Lt.xor1 l % 2 = 1 - l % 2 := by unfold Lt.xor1; split <;> omega
    unfold litV
    rw [litI_some (x := Lt.xor1 l) (by rw [e2]; exact z1), litI_some z1, e3]
    have hx : ofL (stepV c s i) (xorI z 1) = !ofL (stepV c s i) z := by
      rw [show xorI z 1 = Lt.xor1 z by unfold xorI; rw [if_pos rfl]]; exact ofL_xor1 _ z2
    have hz0 : ofL (stepV c s i) (xorI z 0) = ofL (stepV c s i) z := by
      rw [show xorI z 0 = z by unfold xorI; rw [if_neg (by decide)]]
    have hm : l % 2 = 0 ∨ l % 2 = 1 := by omega
    rcases hm with hm | hm <;> rw [hm]
    · rw [show (1 - 0 : Int) = 1 from rfl, hx, hz0]; simp
    · rw [show (1 - 1 : Int) = 0 from rfl, hx, hz0]; simp
theorem litV_lat (h : GoodC' c) {j : Nat} {t : T3} (ht : c.lat[j]? = some t) : litV c s i t.1 = s.getD j false := by
  have hj := lt_of_get ht
  have hq : c.seq[c.ins.length + j]? = some t.1 := by
    rw [List.getElem?_append_left (by rw [List.length_append, List.length_map]; omega), List.getElem?_append_right (by omega), List.getElem?_map, show c.ins.length + j - c.ins.length = j by omega, ht]; rfl
  have ho : t.1 ∈ c.own := List.mem_append_left _ (List.mem_append_right _ (List.mem_map.2 ⟨t, List.mem_of_getElem? ht, rfl⟩))
  have hz := (cNet_ok h).1.has _ _ hq
  have hl1 := (cNet_ok h).1.len1
  have hll := lt_of_get hq
  obtain ⟨x, hx⟩ := getI (cNet c).1 (show c.ins.length + j < (cNet c).1.length by omega)
  have hin := (net_in h hx).2 (by rw [inl_len]; omega)
  unfold litV stepV
  rw [litI_some hz, (h.own _ ho).2.1, show xorI (2 * (((c.ins.length + j : Nat) : Int) + 1)) 0 = 2 * (((c.ins.length + j : Nat) : Int) + 1) by unfold xorI; rw [if_neg (by decide)]]
  unfold ofL
  rw [show ((2 * (((c.ins.length + j : Nat) : Int) + 1)) / 2).toNat = c.ins.length + j + 1 by omega, values_in _ hx hin, decide_eq_false (by omega), net_cnt h _ (by omega), inl_len, Nat.min_eq_left (by omega)]
  unfold insV
  rw [List.getD, List.getElem?_append_right (by rw [brV_len]; omega), brV_len, Nat.add_sub_cancel_left, brV_get s hj]
  simp
/-- States in a cube: all of its literals are so. -/
theorem here_all (h : GoodC' c) {k : List Int} (hk : OfK c k) (hs : s.length = c.lat.length) : (∀ l ∈ hereL c k, litV c s i l = true) ↔ InCube k s := by
  have key : ∀ x ∈ k, (litV c s i (xorI (latH c (x / 2)) (x % 2)) = true ↔ s.getD (x / 2).toNat false = decide (x % 2 = 0)) := by
    intro x hx
    have hx3 := hk x hx
    obtain ⟨t, ht⟩ := getI c.lat hx3.2.2
    have he : latH c (x / 2) = t.1 := by unfold latH; rw [getD_of ht]
    have ho : t.1 ∈ c.own := List.mem_append_left _ (List.mem_append_right _ (List.mem_map.2 ⟨t, List.mem_of_getElem? ht, rfl⟩))
    have hkn : KnL c t.1 := ⟨by have := h.own _ ho; omega, fun _ => by rw [show t.1 - t.1 % 2 = t.1 by have := (h.own _ ho).2.1; omega]; exact ho⟩
    have hm : x % 2 = 0 ∨ x % 2 = 1 := by omega
    rw [he, litV_xor h hkn hm, litV_lat h ht]
    rcases hm with hm | hm <;> rw [hm] <;> cases s.getD (x / 2).toNat false <;> simp
  constructor
  · intro hh x hx
    have hx3 := hk x hx
    exact ⟨hx3.1, by rw [hs]; exact hx3.2.2, (key x hx).1 (hh _ (List.mem_map.2 ⟨x, hx, rfl⟩))⟩
  · intro hc l hl
    obtain ⟨x, hx, rfl⟩ := List.mem_map.1 hl
    exact (key x hx).2 (hc x hx).2.2
theorem next_all (h : GoodC' c) {k : List Int} (hk : OfK c k) : (∀ l ∈ nextL c k, litV c s i l = true) ↔ InCube k (nextV c s i) := by
  have key : ∀ x ∈ k, (litV c s i (xorI (latN c (x / 2)) (x % 2)) = true ↔ (nextV c s i).getD (x / 2).toNat false = decide (x % 2 = 0)) := by
    intro x hx
    have hx3 := hk x hx
    obtain ⟨t, ht⟩ := getI c.lat hx3.2.2
    have he : latN c (x / 2) = t.2.1 := by unfold latN; rw [getD_of ht]
    have hkn : KnL c t.2.1 := knL_used h (used_next (List.mem_of_getElem? ht))
    have hm : x % 2 = 0 ∨ x % 2 = 1 := by omega
    have hn : (nextV c s i)[(x / 2).toNat]? = some (litV c s i t.2.1) := by unfold nextV; rw [List.getElem?_map, ht]; rfl
    rw [he, litV_xor h hkn hm, getD_of hn]
    rcases hm with hm | hm <;> rw [hm] <;> cases litV c s i t.2.1 <;> simp
  constructor
  · intro hh x hx
    have hx3 := hk x hx
    exact ⟨hx3.1, by rw [nextV_len]; exact hx3.2.2, (key x hx).1 (hh _ (List.mem_map.2 ⟨x, hx, rfl⟩))⟩
  · intro hc l hl
    obtain ⟨x, hx, rfl⟩ := List.mem_map.1 hl
    exact (key x hx).2 (hc x hx).2.2
end
end Go.Proofs.Yteidpnpbfagaeaa
namespace Go.Proofs.Yteidpnpbfagaeaa
open Go Go.Lt Go.RowKit
set_option linter.unusedVariables false
set_option linter.unusedSimpArgs false
set_option maxRecDepth 20000

theorem aTo_of {N : List (Int × Int)} {L : List Int} (hT : Tidy N) (ins : List Bool) (h : ∀ z ∈ L, hasL N z) : ∀ k, k ≤ L.length → (ofL (values (aTo N L k).2 ins) (aTo N L k).1 = true ↔ ∀ z ∈ L.take k, ofL (values N ins) z = true)
  | 0, _ => by
    have e : aTo N L 0 = (1, N) := rfl
    rw [e, ofL_one]; simp
  | k + 1, hk => by
    obtain ⟨z, hz⟩ := getI L (show k < L.length by omega)
    obtain ⟨i1, i2, i3, i4⟩ := aTo_inv h k (by omega)
    have ih := aTo_of hT ins h k (by omega)
    have hzN := h z (List.mem_of_getElem? hz)
    rw [aTo_succ hz, andV_of (i4.tidy hT) ins i1 (hasL_mono hzN i2), i4.of ins hzN, take_succ' hz, Bool.and_eq_true, ih]
    constructor
    · rintro ⟨h1, h2⟩ y hy
      rcases List.mem_append.1 hy with hy | hy
      · exact h1 y hy
      · rw [List.mem_singleton.1 hy]; exact h2
    · intro hh
      exact ⟨fun y hy => hh y (List.mem_append_left _ hy), hh z (List.mem_append_right _ (List.mem_singleton.2 rfl))⟩
theorem allV_of {N : List (Int × Int)} {L : List Int} (hT : Tidy N) (ins : List Bool) (h : ∀ z ∈ L, hasL N z) : (ofL (values (allV N L).2 ins) (allV N L).1 = true ↔ ∀ z ∈ L, ofL (values N ins) z = true) ∧ Grow N (allV N L).2 := by
  have e : allV N L = aTo N L L.length := by unfold allV; rw [dec_true h]; rfl
  have h1 := aTo_of hT ins h L.length (Nat.le_refl _)
  rw [List.take_length] at h1
  rw [e]; exact ⟨h1, (aTo_inv h L.length (Nat.le_refl _)).2.2.2⟩
section
variable {c : CirT} {s i : List Bool}
theorem net0_tidy (h : GoodC' c) : Tidy (net0 c) := by
  have := (copy_sem (cNet_ok h).2 [] (cNet c).1.length (Nat.le_refl _)).1
  unfold net0; rw [copy_nil]; exact this
theorem askL_of (h : GoodC' c) {l : Int} (hl : KnL c l) : ofL (values (net0 c) (insV c s i)) (askL c (own0 c) l) = litV c s i l := by
  have h3 := (copy_sem (cNet_ok h).2 (insV c s i) (cNet c).1.length (Nat.le_refl _)).2.2
  obtain ⟨o1, o2, _⟩ := own0_ok h
  have hr := knL_range h hl
  have e0 : (cto [] (cNet c).1 [] (cNet c).1.length).1 = own0 c := by unfold own0; rw [copy_nil]
  have e1 : (cto [] (cNet c).1 [] (cNet c).1.length).2.2 = net0 c := by unfold net0; rw [copy_nil]
  rw [e0, e1] at h3
  unfold litV stepV askL
  generalize litI (cNet c).2 l = y at hr
  obtain ⟨z, hz⟩ := getI (own0 c) (show (y / 2).toNat < (own0 c).length by omega)
  have hzv := h3 _ z hz
  have hz0 := (o2 z (List.mem_of_getElem? hz)).1
  unfold litI xorI
  rw [getD_of hz]
  by_cases hp : y % 2 = 1
  · rw [if_pos hp, ofL_xor1 _ hz0, hzv, ofL, decide_eq_true hp]; simp
  · rw [if_neg hp, hzv, ofL, decide_eq_false hp]; simp
theorem askM_of (h : GoodC' c) {N : List (Int × Int)} (hG : Grow (net0 c) N) {k : List Int} (hk : ∀ x ∈ k, KnL c x) : (∀ z ∈ askM c k, ofL (values N (insV c s i)) z = true) ↔ ∀ x ∈ k, litV c s i x = true := by
  constructor
  · intro hh x hx
    have := hh _ (List.mem_map.2 ⟨x, hx, rfl⟩)
    rw [hG.of _ (askL_has h (hk x hx)), askL_of h (hk x hx)] at this; exact this
  · intro hh z hz
    obtain ⟨x, hx, rfl⟩ := List.mem_map.1 hz
    rw [hG.of _ (askL_has h (hk x hx)), askL_of h (hk x hx)]; exact hh x hx
theorem goalTo_of (h : GoodC' c) {g0 : Int} (h0 : hasL (net0 c) g0) {into : List (List Int)} (hi : CubesOk c into) : ∀ k, k ≤ into.length → Grow (net0 c) (goalTo c (g0, net0 c) into k).2 ∧ (ofL (values (goalTo c (g0, net0 c) into k).2 (insV c s i)) (goalTo c (g0, net0 c) into k).1 = true ↔ ofL (values (net0 c) (insV c s i)) g0 = true ∨ ∃ r ∈ into.take k, InCube r (nextV c s i))
  | 0, _ => ⟨.refl _, by
    have e : goalTo c (g0, net0 c) into 0 = (g0, net0 c) := rfl
    rw [e]; simp⟩
  | k + 1, hk => by
    obtain ⟨r, hr⟩ := getI into (show k < _ by omega)
    obtain ⟨j1, j2⟩ := goalTo_of h h0 hi k (by omega)
    obtain ⟨i1, i2, i3⟩ := goalTo_inv h h0 hi k (by omega)
    have hro := hi.1 r (List.mem_of_getElem? hr)
    rw [goalTo_succ hr, take_succ' hr]
    generalize goalTo c (g0, net0 c) into k = q at i1 i2 i3 j1 j2
    have hL := hasM (askM_has h (knL_next h hro.1)) i2
    obtain ⟨a0, a1⟩ := allV_of (j1.tidy (net0_tidy h)) (insV c s i) hL
    obtain ⟨b1, b2, b3⟩ := allV_has hL
    have hT1 := a1.tidy (j1.tidy (net0_tidy h))
    have hor := orV_of hT1 (insV c s i) (hasL_mono i1 b2) b1
    have hg := orV_grow (allV q.2 (askM c (nextL c r))).2 q.1 (allV q.2 (askM c (nextL c r))).1
    unfold goalS
    refine ⟨(j1.trans a1).trans hg, ?_⟩
    rw [hor, Bool.or_eq_true, a0, a1.of _ i1, j2, askM_of h j1 (knL_next h hro.1), next_all h hro.1]
    constructor
    · rintro (h1 | h1)
      · rcases h1 with h1 | ⟨y, hy, h2⟩
        · exact .inl h1
        · exact .inr ⟨y, List.mem_append_left _ hy, h2⟩
      · exact .inr ⟨r, List.mem_append_right _ (List.mem_singleton.2 rfl), h1⟩
    · rintro (h1 | ⟨y, hy, h2⟩)
      · exact .inl (.inl h1)
      · rcases List.mem_append.1 hy with hy | hy
        · exact .inl (.inr ⟨y, hy, h2⟩)
        · rw [List.mem_singleton.1 hy] at h2; exact .inr h2
theorem askTo_of (h : GoodC' c) (hs : s.length = c.lat.length) {q : List Int × List (Int × Int)} (h0 : Grow (net0 c) q.2) (hq : ∀ z ∈ q.1, hasL q.2 z) {out : List (List Int)} (ho : CubesOk c out) : ∀ k, k ≤ out.length → Grow (net0 c) (askTo c q out k).2 ∧ (∀ z ∈ (askTo c q out k).1, hasL (askTo c q out k).2 z) ∧ ((∀ z ∈ (askTo c q out k).1, ofL (values (askTo c q out k).2 (insV c s i)) z = true) ↔ (∀ z ∈ q.1, ofL (values q.2 (insV c s i)) z = true) ∧ ∀ r ∈ out.take k, ¬ InCube r s)
  | 0, _ => ⟨h0, hq, by
    have e : askTo c q out 0 = q := rfl
    rw [e]; simp⟩
  | k + 1, hk => by
    obtain ⟨r, hr⟩ := getI out (show k < _ by omega)
    obtain ⟨j1, j2, j3⟩ := askTo_of h hs h0 hq ho k (by omega)
    have hro := ho.1 r (List.mem_of_getElem? hr)
    rw [askTo_succ hr, take_succ' hr]
    generalize askTo c q out k = t at j1 j2 j3
    have hL := hasM (askM_has h (knL_here h hro.1)) j1.len
    obtain ⟨a0, a1⟩ := allV_of (j1.tidy (net0_tidy h)) (insV c s i) hL
    obtain ⟨b1, b2, b3⟩ := allV_has hL
    have hn : ofL (values (allV t.2 (askM c (hereL c r))).2 (insV c s i)) (notL (allV t.2 (askM c (hereL c r))).1) = true ↔ ¬ InCube r s := by
      rw [ofL_notL _ b1.1, Bool.not_eq_true', ← here_all (i := i) h hro.1 hs, ← askM_of (N := t.2) h j1 (knL_here h hro.1), ← a0]
      cases ofL (values (allV t.2 (askM c (hereL c r))).2 (insV c s i)) (allV t.2 (askM c (hereL c r))).1 <;> simp
    unfold askS
    refine ⟨j1.trans a1, fun z hz => ?_, ?_⟩
    · rcases List.mem_append.1 hz with hz | hz
      · exact hasL_mono (j2 z hz) b2
      · rw [List.mem_singleton.1 hz]; exact notL_has b1
    · constructor
      · intro hh
        have h1 := j3.1 (fun z hz => by have := hh z (List.mem_append_left _ hz); rw [a1.of _ (j2 z hz)] at this; exact this)
        refine ⟨h1.1, fun y hy => ?_⟩
        rcases List.mem_append.1 hy with hy | hy
        · exact h1.2 y hy
        · rw [List.mem_singleton.1 hy]; exact hn.1 (hh _ (List.mem_append_right _ (List.mem_singleton.2 rfl)))
      · rintro ⟨h1, h2⟩ z hz
        have h3 := j3.2 ⟨h1, fun y hy => h2 y (List.mem_append_left _ hy)⟩
        rcases List.mem_append.1 hz with hz | hz
        · show ofL (values (allV t.2 (askM c (hereL c r))).2 (insV c s i)) z = true
          rw [a1.of _ (j2 z hz)]; exact h3 z hz
        · rw [List.mem_singleton.1 hz]; exact hn.2 (h2 r (List.mem_append_right _ (List.mem_singleton.2 rfl)))
/-- What is asked for. -/
def AskP (c : CirT) (s i : List Bool) (prop : Int) (near : Bool) (out into : List (List Int)) : Prop :=
  HoldsP c s i ∧ (if near = true then BadP c s i prop else ∃ r ∈ into, InCube r (nextV c s i)) ∧ ∀ r ∈ out, ¬ InCube r s
theorem goal0_of (h : GoodC' c) (prop : Int) : ofL (values (net0 c) (insV c s i)) (goal0 c prop true) = true ↔ BadP c s i prop := by
  unfold goal0 BadP
  by_cases hp : 0 ≤ prop ∧ prop < (c.bads.length : Int)
  · obtain ⟨x, hx⟩ := getI c.bads (show prop.toNat < c.bads.length by omega)
    have hk : KnL c x := knL_used h (List.mem_append_left _ (List.mem_append_left _ (List.mem_append_left _ (List.mem_append_right _ (List.mem_of_getElem? hx)))))
    rw [if_pos ⟨rfl, hp⟩, getD_of hx, askL_of h hk, hx]
    exact ⟨fun hh => ⟨hp.1, x, rfl, hh⟩, fun ⟨_, y, hy, hh⟩ => by cases hy; exact hh⟩
  · rw [if_neg (fun hh => hp hh.2), ofL_zero]
    refine ⟨(fun hh => by cases hh), fun ⟨h1, l, hl, _⟩ => ?_⟩
    have := lt_of_get hl
    exact absurd ⟨h1, by omega⟩ hp
theorem ask_of (h : GoodC' c) (hs : s.length = c.lat.length) (prop : Int) (near : Bool) {out into : List (List Int)} (ho : CubesOk c out) (hi : CubesOk c into) : Grow (net0 c) (askV c prop near out into).2 ∧ (∀ z ∈ (askV c prop near out into).1, hasL (askV c prop near out into).2 z) ∧ ((∀ z ∈ (askV c prop near out into).1, ofL (values (askV c prop near out into).2 (insV c s i)) z = true) ↔ AskP c s i prop near out into) := by
  have hgoal : Grow (net0 c) (goalV c prop near into).2 ∧ hasL (goalV c prop near into).2 (goalV c prop near into).1 ∧ (ofL (values (goalV c prop near into).2 (insV c s i)) (goalV c prop near into).1 = true ↔ (if near = true then BadP c s i prop else ∃ r ∈ into, InCube r (nextV c s i))) := by
    unfold goalV
    cases near with
    | true => exact ⟨.refl _, goal0_has h prop true, by rw [if_pos rfl, if_pos rfl]; exact goal0_of h prop⟩
    | false =>
      have h0 : hasL (net0 c) 0 := by unfold hasL; omega
      obtain ⟨g1, g2⟩ := goalTo_of (s := s) (i := i) h h0 hi into.length (Nat.le_refl _)
      rw [if_neg (by decide), if_neg (by decide)]
      refine ⟨g1, (goalTo_inv h h0 hi into.length (Nat.le_refl _)).1, ?_⟩
      rw [g2, ofL_zero, List.take_length]
      simp
  obtain ⟨g1, g2, g3⟩ := hgoal
  have hcons : ∀ x ∈ c.cons, KnL c x := fun x hx => knL_used h (List.mem_append_left _ (List.mem_append_left _ (List.mem_append_right _ hx)))
  have hq : ∀ z ∈ askM c c.cons ++ [(goalV c prop near into).1], hasL (goalV c prop near into).2 z := by
    intro z hz
    rcases List.mem_append.1 hz with hz | hz
    · exact hasL_mono (askM_has h hcons z hz) g1.len
    · rw [List.mem_singleton.1 hz]; exact g2
  obtain ⟨k1, k2, k3⟩ := askTo_of (s := s) (i := i) (q := (askM c c.cons ++ [(goalV c prop near into).1], (goalV c prop near into).2)) h hs g1 hq ho out.length (Nat.le_refl _)
  unfold askV
  refine ⟨k1, k2, ?_⟩
  rw [k3, List.take_length]
  unfold AskP HoldsP
  have hc := askM_of (s := s) (i := i) (N := (goalV c prop near into).2) h g1 hcons
  constructor
  · rintro ⟨h1, h2⟩
    exact ⟨hc.1 fun z hz => h1 z (List.mem_append_left _ hz), g3.1 (h1 _ (List.mem_append_right _ (List.mem_singleton.2 rfl))), h2⟩
  · rintro ⟨h1, h2, h3⟩
    refine ⟨fun z hz => ?_, h3⟩
    rcases List.mem_append.1 hz with hz | hz
    · exact hc.2 h1 z hz
    · rw [List.mem_singleton.1 hz]; exact g3.2 h2
end
end Go.Proofs.Yteidpnpbfagaeaa
namespace Go.Proofs.Yteidpnpbfagaeaa
open Go Go.Lt Go.RowKit
set_option linter.unusedVariables false
set_option linter.unusedSimpArgs false
set_option maxRecDepth 20000

abbrev exL : CirT := ⟨3, [2], [(4, 6, 0)], [], [], [], [(6, 2, 4)], [], ⟨#[]⟩⟩
abbrev exLn : List (Int × Int) := [(-1, 0), (-1, 0), (2, 4)]
theorem exL_ord : ordL [((6, 2, 4) : G3)] = [0] := by
  refine (IsOrd.ord (gs := [(6, 2, 4)]) (L := [0]) ⟨fun k i h => ?_, fun i ⟨g, hg, hn, _⟩ => ?_⟩).symm
  · have hk : k = 0 := by have := lt_of_get h; simp at this; omega
    subst hk
    simp at h
    subst h
    refine ⟨⟨(6, 2, 4), rfl, by simp, fun j x hj he => ?_⟩, fun j hj => Nat.zero_le _⟩
    have : j = 0 := by have := lt_of_get hj; simp at this; omega
    subst this
    simp at hj
    subst hj
    decide
  · have : i = 0 := by have := lt_of_get hg; simp at this; omega
    subst this
    exact hn (by simp)
theorem exL_good : GoodC' exL := by
  refine ⟨by decide, fun x hx => ?_, fun x hx => ?_, fun x hx => ?_, ?_, fun x hx h => ?_, ?_⟩
  · have : x = 2 ∨ x = 4 ∨ x = 6 := by simpa using hx
    rcases this with rfl | rfl | rfl <;> decide
  · have : x = 6 ∨ x = 2 ∨ x = 4 := by simpa using hx
    rcases this with rfl | rfl | rfl <;> decide
  · have : x = (4, 6, 0) := by simpa using hx
    subst this; exact .inl rfl
  · simp
  · have : x = 6 ∨ x = 2 ∨ x = 4 := by simpa using hx
    rcases this with rfl | rfl | rfl <;> simp
  · show (ordL [((6, 2, 4) : G3)]).length = 1
    rw [exL_ord]; rfl
theorem exL_net : cNet exL = (exLn, [0, 2, 4, 6]) := by
  unfold cNet
  rw [show exL.gates = [(6, 2, 4)] from rfl, exL_ord]
  rfl
theorem exL_gn : GoodNet exLn := by have := (cNet_ok exL_good).2; rw [exL_net] at this; exact this
theorem exL_next : nextL exL [0] = [6] := rfl
theorem exL_I : lifI exL [true] [true] = [1, 1] := rfl
theorem exL_W6 : lifW exL [6] = [6] := by unfold lifW; rw [exL_net]; rfl
theorem exL_W2 : lifW exL [2] = [2] := by unfold lifW; rw [exL_net]; rfl
theorem exL_l6 : ∀ x ∈ [(6 : Int)], 0 ≤ x ∧ (x / 2).toNat ≤ exLn.length := fun x hx => by simp at hx; subst hx; decide
theorem exL_l2 : ∀ x ∈ [(2 : Int)], 0 ≤ x ∧ (x / 2).toNat ≤ exLn.length := fun x hx => by simp at hx; subst hx; decide
theorem exL_P6 : LifP exL [true] [true] [6] := by
  unfold LifP; rw [exL_I, exL_W6, exL_net]
  exact (sure_calc exL_gn (by decide) _ exL_l6).2 (by decide)
theorem exL_P2 : LifP exL [true] [true] [2] := by
  unfold LifP; rw [exL_I, exL_W2, exL_net]
  exact (sure_calc exL_gn (by decide) _ exL_l2).2 (by decide)
theorem exL_tab : tab (cnt exLn exLn.length) (tin [1, 1]) = [1, 1] := by decide
theorem exL_d6 : dropL exLn [1, 1] [6] [true] = [1, 1] := by
  have s0 : SureP exLn [1, 1] [6] := (sure_calc exL_gn (by decide) _ exL_l6).2 (by decide)
  have s2 : ¬ SureP exLn [1, 2] [6] := fun h => absurd ((sure_calc exL_gn (by decide) _ exL_l6).1 h) (by decide)
  rw [dropL, exL_tab, if_pos s0, show cnt exLn exLn.length = 2 from rfl, dropTo, dropTo, dropTo, exL_tab]
  have d0 : dstep exLn [6] [true] [1, 1] 0 = [1, 1] := by rw [dstep]; exact if_pos (by decide)
  rw [d0, dstep, if_neg (by decide)]
  exact if_neg s2
theorem exL_d2 : dropL exLn [1, 1] [2] [true] = [1, 2] := by
  have s0 : SureP exLn [1, 1] [2] := (sure_calc exL_gn (by decide) _ exL_l2).2 (by decide)
  have s2 : SureP exLn [1, 2] [2] := (sure_calc exL_gn (by decide) _ exL_l2).2 (by decide)
  rw [dropL, exL_tab, if_pos s0, show cnt exLn exLn.length = 2 from rfl, dropTo, dropTo, dropTo, exL_tab]
  have d0 : dstep exLn [2] [true] [1, 1] 0 = [1, 1] := by rw [dstep]; exact if_pos (by decide)
  rw [d0, dstep, if_neg (by decide)]
  exact if_pos s2
theorem exL_C6 : lifC exL [true] [true] [6] = [0] := by
  unfold lifC lifD
  rw [exL_I, exL_W6, exL_net, show lifK exL = [true] from rfl, exL_d6]
  rfl
theorem exL_C2 : lifC exL [true] [true] [2] = [] := by
  unfold lifC lifD
  rw [exL_I, exL_W2, exL_net, show lifK exL = [true] from rfl, exL_d2]
  rfl
theorem exL_R6 : lifR exL [true] [true] [6] = [0] := by unfold lifR; rw [if_pos exL_P6, exL_C6]
theorem exL_R2 : lifR exL [true] [true] [2] = [] := by unfold lifR; rw [if_pos exL_P2, exL_C2]
theorem exL_k6 : ∀ x ∈ [(6 : Int)], KnL exL x := fun x hx => by simp at hx; subst hx; exact ⟨by decide, fun _ => by simp⟩
theorem exL_k2 : ∀ x ∈ [(2 : Int)], KnL exL x := fun x hx => by simp at hx; subst hx; exact ⟨by decide, fun _ => by simp⟩
theorem exL_of : OfK exL [0] := fun x hx => by simp at hx; subst hx; decide
end Go.Proofs.Yteidpnpbfagaeaa
namespace Go.Proofs.Yteidpnpbfagaeaa
open Go Go.Lt Go.RowKit
set_option linter.unusedVariables false
set_option linter.unusedSimpArgs false
set_option maxRecDepth 20000

set_option maxRecDepth 20000 in
set_option maxHeartbeats 16000000 in
theorem law34_lives (w : World) : Pure Try.prog 9 [] w (.bool true) := by
  refine Spec.of _ Try.func9 rfl Try.ntmps9 (by kernel_rfl) rfl ?_
  repeat' (first
    | ((show WL _ _ _ (⟨_, .build 27 _, _, _, _, _⟩ :: _) _ _ _; apply WL.build (cs := [.int .i64 3, .slice (some ⟨g1, 0, none⟩) 1 1, .slice (some ⟨g2, 0, none⟩) 1 1, .slice none 0 0, .slice none 0 0, .slice none 0 0, .slice (some ⟨g3, 0, none⟩) 1 1, .slice none 0 0, .string ⟨#[]⟩]) tOk; (iterate 6 exact rfl); (first | kernel_rfl | exact rfl); kernel_rfl))
    | (apply WL.build tOk; (iterate 7 exact rfl); kernel_rfl)
    | (apply WL.lit tOk; (iterate 6 exact rfl); (first | exact rfl | kernel_rfl | (simp [Instr.fill, catCells]; done)); exact rfl; intro gb w' hb hge hc hx; have hO := Own.of_block ([(2 : Int)]) encI_ok hb hge rfl; (obtain ⟨g1, rfl⟩ : ∃ x, x = gb := ⟨_, rfl⟩; obtain ⟨w1, rfl⟩ : ∃ x, x = w' := ⟨_, rfl⟩; obtain ⟨hx1, rfl⟩ : ∃ x, x = hx := ⟨_, rfl⟩; obtain ⟨hO1, rfl⟩ : ∃ x, x = hO := ⟨_, rfl⟩))
    | (apply WL.lit tOk; (iterate 6 exact rfl); (first | exact rfl | kernel_rfl | (simp [Instr.fill, catCells]; done)); exact rfl; intro gb w' hb hge hc hx; have hO := Own.of_block ([((4, 6, 0) : T3)]) enc3_ok hb hge rfl; (obtain ⟨g2, rfl⟩ : ∃ x, x = gb := ⟨_, rfl⟩; obtain ⟨w2, rfl⟩ : ∃ x, x = w' := ⟨_, rfl⟩; obtain ⟨hx2, rfl⟩ : ∃ x, x = hx := ⟨_, rfl⟩; obtain ⟨hO2, rfl⟩ : ∃ x, x = hO := ⟨_, rfl⟩))
    | (apply WL.lit tOk; (iterate 6 exact rfl); (first | exact rfl | kernel_rfl | (simp [Instr.fill, catCells]; done)); exact rfl; intro gb w' hb hge hc hx; have hO := Own.of_block ([((6, 2, 4) : T3)]) enc3_ok hb hge rfl; (obtain ⟨g3, rfl⟩ : ∃ x, x = gb := ⟨_, rfl⟩; obtain ⟨w3, rfl⟩ : ∃ x, x = w' := ⟨_, rfl⟩; obtain ⟨hx3, rfl⟩ : ∃ x, x = hx := ⟨_, rfl⟩; obtain ⟨hO3, rfl⟩ : ∃ x, x = hO := ⟨_, rfl⟩))
    | (apply WL.alloc tOk; (iterate 3 exact rfl); intro gb w' hb hge hx)
    | (apply WL.storeB (w0 := w3) tOk; (iterate 4 exact rfl); assumption; (exact extA); (iterate 3 exact rfl); (exact extA); (first | assumption | omega | (focus (apply Nat.le_trans; rotate_left; assumption; exact Below.size (by (exact extA)); done))); intro w' hb hc hX' hU; have hcc := hc; obtain ⟨h1, h2, _⟩ := hc; (obtain ⟨w4, rfl⟩ : ∃ x, x = w' := ⟨_, rfl⟩; obtain ⟨hb4, rfl⟩ : ∃ x, x = hb := ⟨_, rfl⟩; obtain ⟨hX4, rfl⟩ : ∃ x, x = hX' := ⟨_, rfl⟩; obtain ⟨gC, rfl⟩ : ∃ x, x = gb := ⟨_, rfl⟩; have hcs := cells_heap hb4))
    | (show WL _ _ _ _ _ _ _; first | apply WL.nil | (refine WL.au (k := ?_)))
    | (show Z _ _ _ _ _; apply Z.then_normal)
    | (show W _ _ _ _ _ _; first | apply W.seq | apply W.region)
    | fail)
  obtain ⟨c, hc⟩ : ∃ c : Circ, c = ⟨3, (some ⟨g1, 0, none⟩, 1, [2]), (some ⟨g2, 0, none⟩, 1, [(4, 6, 0)]), (none, 0, []), (none, 0, []), (none, 0, []), (some ⟨g3, 0, none⟩, 1, [(6, 2, 4)]), (none, 0, []), ⟨#[]⟩⟩ := ⟨_, rfl⟩
  have hct : c.t = exL := by rw [hc]
  have hX : Ext w w4 := (by (exact extA))
  have nilK : ∀ {α : Type} (s : Nat) (enc : α → List Value), RowK s enc w4 ((none, 0, []) : RowV α) := fun s enc => ⟨Row.nil _ _ _ _, Nat.le_refl _, fun _ => rfl⟩
  have hC : CAt w4 c := by
    rw [hc]
    exact ⟨⟨(hO1.row encI_ok).ext (by (exact extA)), Nat.le_refl _, fun h => by cases h⟩, ⟨(hO2.row enc3_ok).ext (by (exact extA)), Nat.le_refl _, fun h => by cases h⟩, nilK _ _, nilK _ _, nilK _ _, ⟨(hO3.row enc3_ok).ext (by (exact extA)), Nat.le_refl _, fun h => by cases h⟩, nilK _ _⟩
  have hz : SzC c.t 100000 := by rw [hct]; unfold SzC; simp
  have hg : GoodC' c.t := by rw [hct]; exact exL_good
  have hv : c.val = .agg #[.int .i64 3, .slice (some ⟨g1, 0, none⟩) 1 1, .slice (some ⟨g2, 0, none⟩) 1 1, .slice none 0 0, .slice none 0 0, .slice none 0 0, .slice (some ⟨g3, 0, none⟩) 1 1, .slice none 0 0, .string ⟨#[]⟩] := by rw [hc]; rfl
  have hnx := fun (w9 : World) (a : Option Addr) (h9 : Ext w4 w9) (R : Row 1 encI w9 a [0]) => lift_Next c a 1 [0] w9 (hC.ext h9) hg R (by rw [hct]; exact exL_of) (by decide)
  have hl6 := fun (w9 : World) (a b d : Option Addr) (cd : Nat) (h9 : Ext w4 w9) (R : Row 1 encB w9 a [true]) (Rb : Row 1 encB w9 b [true]) (Rd : Row 1 encI w9 d [6]) => lift_Lift c a b d 1 1 cd [true] [true] [6] w9 (hC.ext h9) hg hz R Rb Rd (by rw [hct]; exact exL_k6) (by decide)
  have hl2 := fun (w9 : World) (a b d : Option Addr) (cd : Nat) (h9 : Ext w4 w9) (R : Row 1 encB w9 a [true]) (Rb : Row 1 encB w9 b [true]) (Rd : Row 1 encI w9 d [2]) => lift_Lift c a b d 1 1 cd [true] [true] [2] w9 (hC.ext h9) hg hz R Rb Rd (by rw [hct]; exact exL_k2) (by decide)
  rw [hv, hct] at hnx hl6 hl2
  rw [exL_next] at hnx
  have p6 : dec (LifP exL [true] [true] [6]) = true := dec_true exL_P6
  have p2 : dec (LifP exL [true] [true] [2]) = true := dec_true exL_P2
  unfold IsLift at hl6 hl2
  rw [exL_R6, p6] at hl6
  rw [exL_R2, p2] at hl2
  clear hb hc
  repeat' (first
    | (show W _ _ (.region 2 _ _) _ _ _; apply W.regionGX (.fl false 0 (.fl false 3 (.br 1 (.br 2 (.br 4 (.br 5 (.br 6 (.fl true 7 (.fl true 8 (.fl true 9 (.fl true 10 (.fl true 11 .done))))) .stop) .stop) .stop) (.br 4 (.br 2 (.br 5 (.br 6 (.fl true 7 (.fl true 8 (.fl true 9 (.fl true 10 (.fl true 11 .done))))) .stop) .stop) (.br 5 (.br 2 (.br 6 (.fl true 7 (.fl true 8 (.fl true 9 (.fl true 10 (.fl true 11 .done))))) .stop) .stop) .stop)) .stop)) (.br 2 (.br 1 (.br 4 (.br 5 (.br 6 (.fl true 7 (.fl true 8 (.fl true 9 (.fl true 10 (.fl true 11 .done))))) .stop) .stop) .stop) (.br 4 (.br 1 (.br 5 (.br 6 (.fl true 7 (.fl true 8 (.fl true 9 (.fl true 10 (.fl true 11 .done))))) .stop) .stop) (.br 5 (.br 1 (.br 6 (.fl true 7 (.fl true 8 (.fl true 9 (.fl true 10 (.fl true 11 .done))))) .stop) .stop) .stop)) .stop)) (.br 4 (.br 1 (.br 2 (.br 5 (.br 6 (.fl true 7 (.fl true 8 (.fl true 9 (.fl true 10 (.fl true 11 .done))))) .stop) .stop) (.br 5 (.br 2 (.br 6 (.fl true 7 (.fl true 8 (.fl true 9 (.fl true 10 (.fl true 11 .done))))) .stop) .stop) .stop)) (.br 2 (.br 1 (.br 5 (.br 6 (.fl true 7 (.fl true 8 (.fl true 9 (.fl true 10 (.fl true 11 .done))))) .stop) .stop) (.br 5 (.br 1 (.br 6 (.fl true 7 (.fl true 8 (.fl true 9 (.fl true 10 (.fl true 11 .done))))) .stop) .stop) .stop)) (.br 5 (.br 1 (.br 2 (.br 6 (.fl true 7 (.fl true 8 (.fl true 9 (.fl true 10 (.fl true 11 .done))))) .stop) .stop) (.br 2 (.br 1 (.br 6 (.fl true 7 (.fl true 8 (.fl true 9 (.fl true 10 (.fl true 11 .done))))) .stop) .stop) .stop)) .stop))) .stop))))) [1, 2, 3, 4, 5, 6, 7, 8, 9] tMix; kernel_rfl)
    | (apply WL.lit tOk; (iterate 6 exact rfl); (first | exact rfl | kernel_rfl | (simp [Instr.fill, catCells]; done)); exact rfl; intro gb w' hb hge hc hx; have hO := Own.of_block ([true]) encB_ok hb hge rfl)
    | (apply WL.lit tOk; (iterate 6 exact rfl); (first | exact rfl | kernel_rfl | (simp [Instr.fill, catCells]; done)); exact rfl; intro gb w' hb hge hc hx; have hO := Own.of_block ([(0 : Int)]) encI_ok hb hge rfl)
    | (apply WL.lit tOk; (iterate 6 exact rfl); (first | exact rfl | kernel_rfl | (simp [Instr.fill, catCells]; done)); exact rfl; intro gb w' hb hge hc hx; have hO := Own.of_block ([(2 : Int)]) encI_ok hb hge rfl)
    | (((show WL _ _ _ (⟨_, .call ⟨.value (.func 52), _, _⟩, _, _, _, _⟩ :: _) _ _ _); apply WL.call; (iterate 4 exact rfl); exact hnx _ _ (by (exact extA)) (Row.ext (Own.row encI_ok (by assumption)) (by (exact extA))); rintro v' w5 ⟨hx5, a5, c5, rfl, hO5⟩; have R5 := hO5.row encI_ok))
    | (((show WL _ _ _ (⟨_, .call ⟨.value (.func 51), _, _⟩, _, _, _, _⟩ :: _) _ _ _); apply WL.call; (iterate 4 exact rfl); (first | exact hl6 _ _ _ _ _ (by (exact extA)) (Row.ext (Own.row encB_ok (by assumption)) (by (exact extA))) (Row.ext (Own.row encB_ok (by assumption)) (by (exact extA))) (R5.ext (by (exact extA))) | exact hl2 _ _ _ _ _ (by (exact extA)) (Row.ext (Own.row encB_ok (by assumption)) (by (exact extA))) (Row.ext (Own.row encB_ok (by assumption)) (by (exact extA))) (Row.ext (Own.row encI_ok (by assumption)) (by (exact extA)))); (first | (have h_0 := R6; clear h_0; rintro v' w7 ⟨hx7, a7, c7, rfl, R7⟩) | rintro v' w6 ⟨hx6, a6, c6, rfl, R6⟩)))
    | (apply WL.gT; exact rfl; exact rfl; (focus (first | exact dec_true rfl | exact dec_true (by decide); done)))
    | ((show WL _ _ _ (⟨_, .call ⟨.value (.func 14), _, _⟩, _, _, _, _⟩ :: _) _ _ _); apply WL.callS; (iterate 4 exact rfl); exact ref_Ints _ _ _ _ [0] [0] _ (R6.ext (by (exact extA))) (Own.row encI_ok (by assumption)))
    | (show SX _ _ _ _ _ _ _ _ _; first | (apply SX.done; intro w' hx) | (apply SX.fl0; exact rfl) | (apply SX.fl1; exact rfl; (exact extA)) | (apply SX.br1; exact rfl; intro w' hx) | (apply SX.br; exact rfl; (intro w' hx)))
    | (show FL _ _ _ _ _ _ _ _; first | apply FL.nilX | (apply FL.loadAE tOk; (iterate 5 exact rfl); assumption; exact rfl))
    | (show FL _ _ _ _ _ _ _ _; (refine FL.au (k := ?_)))
    | (show Z _ _ _ _ _; (apply Z.sxE; (exact extA)))
    | (show WL _ _ _ _ _ _ _; first | apply WL.nil | (refine WL.au (k := ?_)))
    | (show Z _ _ _ _ _; apply Z.then_normal)
    | (show W _ _ _ _ _ _; first | apply W.seq | apply W.region | apply W.ret)
    | fail)
  all_goals exact Z.body1 Try.results9 rfl fun m => ⟨rfl, Ext.at (hX.trans (by (exact extA))) m⟩
end Go.Proofs.Yteidpnpbfagaeaa
namespace Go.Proofs.Yteidpnpbfagaeaa
open Go Go.Lt Go.RowKit
set_option linter.unusedVariables false
set_option linter.unusedSimpArgs false
set_option maxRecDepth 20000

theorem few_sz2 {c : CirT} {m : Int} (h : FewC c m) (hm : m ≤ 100000) : SzC c 100000 ∧ c.syms.length ≤ 100000 := by
  obtain ⟨h1, h2, h3, h4, h5, h6, h7, _⟩ := few_iff.1 h
  exact ⟨⟨by omega, by omega, by omega, by omega, by omega, by omega⟩, by omega⟩
end Go.Proofs.Yteidpnpbfagaeaa
namespace Go.Proofs.Yteidpnpbfagaeaa
open Go Go.Lt Go.RowKit
set_option linter.unusedVariables false
set_option linter.unusedSimpArgs false
set_option maxRecDepth 20000

theorem factNN : FactEq Try.prog 105 := ⟨by kernel_rfl, by kernel_rfl⟩
set_option maxHeartbeats 4000000 in
theorem ref07_Same (a b : Option Addr) (cap cb : Nat) (n : List (Int × Int)) (w : World) (R : Row 2 encN w a n) (R2 : Row 2 encN w b n) :
    Still Try.prog 13 [.slice a n.length cap, .slice b n.length cb] w (.bool true) := by
  have hlen := R.len
  refine Spec.of _ Try.func13 rfl Try.ntmps13 (by kernel_rfl) rfl ?_
  repeat' (first
    | (apply W.condKF; exact rfl; (focus (exact dec_false (fun h => h rfl); done)))
    | (show WL _ _ _ _ _ _ _; first | apply WL.nil | (refine WL.au (k := ?_)))
    | (show Z _ _ _ _ _; apply Z.then_normal)
    | (show W _ _ _ _ _ _; first | apply W.seq | apply W.region | apply W.block | apply W.skip)
    | fail)
  refine W.loop1 n.length (fun k => k ≤ n.length) (fun k => [(0, .slice a n.length cap), (1, .slice b n.length cb), (5, .int .i64 k)]) (by omega) (fun k h => h) ⟨rfl, rfl, rfl, trivial⟩ ?_
  rintro k hk
  by_cases hlt : k < n.length
  · obtain ⟨z, hz⟩ := getI n hlt
    by_cases hin : z.1 < 0
    · repeat' (first
        | (apply WL.gT; exact rfl; exact rfl; (focus (exact dec_true (by omega); done)))
        | (apply W.condKT; exact rfl; (focus (exact dec_true (by omega); done)))
        | (show WL _ _ _ _ _ _ _; first | apply WL.nil | (refine WL.au (k := ?_)) | (apply WL.index tOk; (iterate 8 exact rfl); assumption; (exact extA); exact rfl; omega; assumption; intro b off h; have hcc := h; first | (obtain ⟨h1, h2, h3, h4, h5, h6, _⟩ := h) | (obtain ⟨h1, h2, h3, _⟩ := h) | (obtain ⟨h1, h2, _⟩ := h) | (obtain ⟨h1, _⟩ := h)))
        | (show Z _ _ _ _ _; first | apply Z.then_normal | apply Z.then_exit | apply Z.block_exit)
        | (show W _ _ _ _ _ _; first | apply W.seq | apply W.region | apply W.block | apply W.skip | apply W.exit)
        | fail)
      exact Z.again1 (by omega) ⟨rfl, rfl, rfl, trivial⟩
    · repeat' (first
        | (apply WL.gF; exact rfl; exact rfl; (focus (first | exact dec_true (by omega) | exact dec_false (by omega) | exact dec_false (fun h => h rfl); done)))
        | (apply W.condKT; exact rfl; (focus (first | exact dec_true (by omega) | exact dec_false (by omega) | exact dec_false (fun h => h rfl); done)))
        | (apply W.condKF; exact rfl; (focus (first | exact dec_true (by omega) | exact dec_false (by omega) | exact dec_false (fun h => h rfl); done)))
        | (apply QL.neqS tOk; (iterate 7 exact rfl); exact factNN)
        | (show WL _ _ _ _ _ _ _; first | apply WL.nil | (refine WL.au (k := ?_)) | (apply WL.index tOk; (iterate 8 exact rfl); assumption; (exact extA); exact rfl; omega; assumption; intro b off h; have hcc := h; first | (obtain ⟨h1, h2, h3, h4, h5, h6, _⟩ := h) | (obtain ⟨h1, h2, h3, _⟩ := h) | (obtain ⟨h1, h2, _⟩ := h) | (obtain ⟨h1, _⟩ := h)) | (apply WL.guardF; exact rfl; exact rfl))
        | (show QL _ _ _ _ _ _ _; first | apply QL.nil | (refine QL.au (k := ?_)) | (apply QL.index tOk; (iterate 8 exact rfl); assumption; (exact extA); exact rfl; omega; assumption; intro b off h; have hcc := h; first | (obtain ⟨h1, h2, h3, h4, h5, h6, _⟩ := h) | (obtain ⟨h1, h2, h3, _⟩ := h) | (obtain ⟨h1, h2, _⟩ := h) | (obtain ⟨h1, _⟩ := h)))
        | (show Z _ _ _ _ _; first | apply Z.then_normal | apply Z.block_normal)
        | (show W _ _ _ _ _ _; first | apply W.seq | apply W.region | apply W.block | apply W.skip | (apply W.condF; exact rfl) | (apply W.regionD tMix; kernel_rfl))
        | fail)
      exact Z.again1 (by omega) ⟨rfl, rfl, rfl, trivial⟩
  · repeat' (first
      | (apply W.condKF; exact rfl; (focus (exact dec_false (by omega); done)))
      | (show WL _ _ _ _ _ _ _; first | apply WL.nil | (refine WL.au (k := ?_)))
      | (show Z _ _ _ _ _; first | apply Z.then_normal | apply Z.then_exit | apply Z.block_exit)
      | (show W _ _ _ _ _ _; first | apply W.seq | apply W.region | apply W.ret | apply W.exit)
      | fail)
    exact Z.body1 Try.results13 rfl fun m => ⟨rfl, m, rfl⟩

end Go.Proofs.Yteidpnpbfagaeaa
namespace Go.Proofs.Yteidpnpbfagaeaa
open Go Go.Lt Go.RowKit
set_option linter.unusedVariables false
set_option linter.unusedSimpArgs false
set_option maxRecDepth 20000

theorem ref27_All (a b : Option Addr) (ca cb : Nat) (v : List Bool) (l : List Int) (w : World) (R : Row 1 encB w a v) (Rl : Row 1 encI w b l) (hl : ∀ z ∈ l, 0 ≤ z ∧ z / 2 < v.length ∧ z ≤ 9223372036854775807) :
    Still Try.prog 21 [.slice a v.length ca, .slice b l.length cb] w (.bool (dec (∀ z ∈ l, ofL v z = true))) := by
  have hll := Rl.len
  refine Spec.of _ Try.func21 rfl Try.ntmps21 (by kernel_rfl) rfl ?_
  repeat' (first
    | (show WL _ _ _ _ _ _ _; first | apply WL.nil | (refine WL.au (k := ?_)))
    | (show Z _ _ _ _ _; apply Z.then_normal)
    | (show W _ _ _ _ _ _; first | apply W.seq | apply W.region | apply W.block)
    | fail)
  refine W.loop1 l.length (fun k => k ≤ l.length ∧ ∀ z ∈ l.take k, ofL v z = true) (fun k => [(0, .slice a v.length ca), (1, .slice b l.length cb), (5, .int .i64 k)]) ⟨Nat.zero_le _, fun x hx => by cases hx⟩ (fun k h => h.1) (by repeat' first | exact trivial | (refine And.intro ?_ ?_) | exact rfl) ?_
  rintro k ⟨hk, hall⟩
  by_cases hlt : k < l.length
  · obtain ⟨z, hz⟩ := getI l hlt
    have hzm := List.mem_of_getElem? hz
    by_cases hv : ofL v z = true
    · have hn : (!ofL v z) = false := by rw [hv]; rfl
      repeat' (first
        | (apply W.condKT; exact rfl; (focus (first | exact dec_true (by omega) | exact hn; done)))
        | (apply W.condKF; exact rfl; (focus (first | exact dec_true (by omega) | exact hn; done)))
        | ((show WL _ _ _ (⟨_, .call ⟨.value (.func 40), _, _⟩, _, _, _, _⟩ :: _) _ _ _); apply WL.callS; (iterate 4 exact rfl); exact ref07_Of _ _ v z _ R (hl z hzm))
        | (show WL _ _ _ _ _ _ _; first | apply WL.nil | (refine WL.au (k := ?_)) | (apply WL.index tOk; (iterate 8 exact rfl); assumption; (exact extA); exact rfl; omega; assumption; intro b off h; have hcc := h; first | (obtain ⟨h1, h2, h3, h4, h5, h6, _⟩ := h) | (obtain ⟨h1, h2, h3, _⟩ := h) | (obtain ⟨h1, h2, _⟩ := h) | (obtain ⟨h1, _⟩ := h)))
        | (show Z _ _ _ _ _; first | apply Z.then_normal | apply Z.block_normal)
        | (show W _ _ _ _ _ _; first | apply W.seq | apply W.region | apply W.block | apply W.skip)
        | fail)
      exact Z.again1 ⟨by omega, take_all hz hall hv⟩ (by repeat' first | exact trivial | (refine And.intro ?_ ?_) | exact rfl)
    · have hn : (!ofL v z) = true := by rw [Bool.not_eq_true] at hv; rw [hv]; rfl
      have e : dec (∀ z ∈ l, ofL v z = true) = false := dec_false fun h => hv (h z hzm)
      repeat' (first
        | (apply W.condKT; exact rfl; (focus (first | exact dec_true (by omega) | exact hn; done)))
        | ((show WL _ _ _ (⟨_, .call ⟨.value (.func 40), _, _⟩, _, _, _, _⟩ :: _) _ _ _); apply WL.callS; (iterate 4 exact rfl); exact ref07_Of _ _ v z _ R (hl z hzm))
        | (show WL _ _ _ _ _ _ _; first | apply WL.nil | (refine WL.au (k := ?_)) | (apply WL.index tOk; (iterate 8 exact rfl); assumption; (exact extA); exact rfl; omega; assumption; intro b off h; have hcc := h; first | (obtain ⟨h1, h2, h3, h4, h5, h6, _⟩ := h) | (obtain ⟨h1, h2, h3, _⟩ := h) | (obtain ⟨h1, h2, _⟩ := h) | (obtain ⟨h1, _⟩ := h)))
        | (show Z _ _ _ _ _; first | apply Z.then_normal | apply Z.then_ret | apply Z.block_ret)
        | (show W _ _ _ _ _ _; first | apply W.seq | apply W.region | apply W.block | apply W.skip | apply W.ret)
        | fail)
      exact Z.body1 Try.results21 rfl fun m => ⟨by rw [e], m, rfl⟩
  · obtain rfl : k = l.length := by omega
    rw [List.take_length] at hall
    have e : dec (∀ z ∈ l, ofL v z = true) = true := dec_true hall
    repeat' (first
      | (apply W.condKF; exact rfl; (focus (exact dec_false (by omega); done)))
      | (show WL _ _ _ _ _ _ _; first | apply WL.nil | (refine WL.au (k := ?_)))
      | (show Z _ _ _ _ _; first | apply Z.then_normal | apply Z.then_exit | apply Z.block_exit)
      | (show W _ _ _ _ _ _; first | apply W.seq | apply W.region | apply W.ret | apply W.exit)
      | fail)
    exact Z.body1 Try.results21 rfl fun m => ⟨by rw [e], m, rfl⟩
theorem ofCs_ok {c : CirT} {ks : List (RowV Int)} (h : OfCs c ks) : CubesOk c (cubes ks) := by
  refine ⟨fun r hr => ?_, by have h1 : (cubes ks).length = ks.length := List.length_map _; have := h.2; omega⟩
  obtain ⟨q, hq, rfl⟩ := List.mem_map.1 hr
  have := h.1 q hq
  exact ⟨this.1, by have := this.2; omega⟩
abbrev askSt (prop : Int) (near : Bool) (ro ri : Option Addr) (co ci : Nat) (out into : List (RowV Int)) : Value := .agg #[.int .i64 prop, .bool near, .slice ro out.length co, .slice ri into.length ci]
set_option maxHeartbeats 16000000 in
theorem law_LiftAsks (c : Circ) (prop : Int) (near : Bool) (ro ri ra : Option Addr) (co ci ca : Nat) (out into : List (RowV Int)) (ins : List Bool) (w : World) (hC : CAt w c) (Ro : Row 1 encRow w ro out) (Ri : Row 1 encRow w ri into) (hro : ∀ r ∈ out, Row 1 encI w r.1 r.2.2) (hri : ∀ r ∈ into, Row 1 encI w r.1 r.2.2) (Rb : Row 1 encB w ra ins) (hmo : ∀ r ∈ out, ∀ x ∈ r.2.2, x ≤ 9223372036854775807) (hmi : ∀ r ∈ into, ∀ x ∈ r.2.2, x ≤ 9223372036854775807) :
    Pure Try.prog 3 [c.val, askSt prop near ro ri co ci out into, .slice ra ins.length ca] w (.bool true) := by
  have hofO := fun (w9 : World) (h9 : Ext w w9) => law34_Of c ro co out w9 (hC.ext h9) (Ro.ext h9) (fun r hr => (hro r hr).ext h9) hmo
  have hofI := fun (w9 : World) (h9 : Ext w w9) => law34_Of c ri ci into w9 (hC.ext h9) (Ri.ext h9) (fun r hr => (hri r hr).ext h9) hmi
  by_cases hf : FewC c.t 12 ∧ c.max ≤ 300 ∧ GoodC' c.t
  rotate_left
  · refine Spec.of _ Try.func3 rfl Try.ntmps3 (by kernel_rfl) rfl ?_
    repeat' (first
      | (apply WL.box; (iterate 3 exact rfl); intro gb w' hb hge hc hx; have hcc := hc; (first | (obtain ⟨h1, h2, h3, _⟩ := hc) | (obtain ⟨h1, h2, _⟩ := hc)); (obtain ⟨y0, y1, y2, y3, _⟩ := id hcc))
      | (apply WL.gT; exact rfl; exact rfl; (focus (first | (rw [dec_false hf]; rfl); done)))
      | ((show WL _ _ _ (⟨_, .call ⟨.value (.func 7), _, _⟩, _, _, _, _⟩ :: _) _ _ _); apply WL.callP; (iterate 4 exact rfl); exact law11_Small c 12 _ (hC.ext (by (exact extA))) (by decide); intro w' hx)
      | ((show WL _ _ _ (⟨_, .call ⟨.value (.func 9), _, _⟩, _, _, _, _⟩ :: _) _ _ _); apply WL.callP; (iterate 4 exact rfl); exact law34_lives _; intro w' hx)
      | (show WL _ _ _ _ _ _ _; first | apply WL.nil | (refine WL.au (k := ?_)) | (apply WL.guardF; exact rfl; exact rfl))
      | (show QL _ _ _ _ _ _ _; first | apply QL.nil | (refine QL.au (k := ?_)))
      | (show Z _ _ _ _ _; first | apply Z.then_normal | apply Z.then_ret)
      | (show W _ _ _ _ _ _; first | apply W.seq | apply W.region | apply W.ret | (apply W.condT; exact rfl) | (apply W.regionD tMix; kernel_rfl))
      | fail)
    exact Z.body1 Try.results3 rfl fun m => ⟨rfl, Ext.at (by (exact extA)) m⟩
  have hkf : (!dec (FewC c.t 12 ∧ c.max ≤ 300 ∧ GoodC' c.t)) = false := by rw [dec_true hf]; rfl
  obtain ⟨hfew, hmx, hg⟩ := id hf
  obtain ⟨hz, hz7⟩ := few_sz2 hfew (by decide)
  by_cases hO : OfCs c.t out
  rotate_left
  · have hk2 : (!dec (OfCs c.t out)) = true := by rw [dec_false hO]; rfl
    refine Spec.of _ Try.func3 rfl Try.ntmps3 (by kernel_rfl) rfl ?_
    repeat' (first
      | (apply WL.box; (iterate 3 exact rfl); intro gb w' hb hge hc hx; have hcc := hc; (first | (obtain ⟨h1, h2, h3, _⟩ := hc) | (obtain ⟨h1, h2, _⟩ := hc)); (obtain ⟨y0, y1, y2, y3, _⟩ := id hcc))
      | (apply WL.gT; exact rfl; exact rfl; (focus (first | with_reducible exact hkf | with_reducible exact hk2; done)))
      | (apply WL.gF; exact rfl; exact rfl; (focus (first | with_reducible exact hkf | with_reducible exact hk2; done)))
      | ((show WL _ _ _ (⟨_, .call ⟨.value (.func 7), _, _⟩, _, _, _, _⟩ :: _) _ _ _); apply WL.callP; (iterate 4 exact rfl); exact law11_Small c 12 _ (hC.ext (by (exact extA))) (by decide); intro w' hx)
      | (apply WL.callP; (iterate 4 exact rfl); exact hofO _ (by (exact extA)); intro w' hx)
      | ((show WL _ _ _ (⟨_, .call ⟨.value (.func 9), _, _⟩, _, _, _, _⟩ :: _) _ _ _); apply WL.callP; (iterate 4 exact rfl); exact law34_lives _; intro w' hx)
      | (show WL _ _ _ _ _ _ _; first | apply WL.nil | (refine WL.au (k := ?_)) | (apply WL.guardF; exact rfl; exact rfl))
      | (show QL _ _ _ _ _ _ _; first | apply QL.nil | (refine QL.au (k := ?_)))
      | (show Z _ _ _ _ _; first | apply Z.then_normal | apply Z.then_ret)
      | (show W _ _ _ _ _ _; first | apply W.seq | apply W.region | apply W.ret | (apply W.condT; exact rfl) | (apply W.regionD tMix; kernel_rfl))
      | fail)
    exact Z.body1 Try.results3 rfl fun m => ⟨rfl, Ext.at (by (exact extA)) m⟩
  have hk2 : (!dec (OfCs c.t out)) = false := by rw [dec_true hO]; rfl
  by_cases hI : OfCs c.t into
  rotate_left
  · have hk3 : (!dec (OfCs c.t into)) = true := by rw [dec_false hI]; rfl
    refine Spec.of _ Try.func3 rfl Try.ntmps3 (by kernel_rfl) rfl ?_
    repeat' (first
      | (apply WL.box; (iterate 3 exact rfl); intro gb w' hb hge hc hx; have hcc := hc; (first | (obtain ⟨h1, h2, h3, _⟩ := hc) | (obtain ⟨h1, h2, _⟩ := hc)); (obtain ⟨y0, y1, y2, y3, _⟩ := id hcc))
      | (apply WL.gF; exact rfl; exact rfl; (focus (first | with_reducible exact hkf | with_reducible exact hk2 | with_reducible exact hk3; done)))
      | (apply W.condKT; exact rfl; (focus (first | with_reducible exact hkf | with_reducible exact hk2 | with_reducible exact hk3; done)))
      | ((show WL _ _ _ (⟨_, .call ⟨.value (.func 7), _, _⟩, _, _, _, _⟩ :: _) _ _ _); apply WL.callP; (iterate 4 exact rfl); exact law11_Small c 12 _ (hC.ext (by (exact extA))) (by decide); intro w' hx)
      | (apply WL.callP; (iterate 4 exact rfl); exact hofO _ (by (exact extA)); intro w' hx)
      | (apply WL.callP; (iterate 4 exact rfl); exact hofI _ (by (exact extA)); intro w' hx)
      | ((show WL _ _ _ (⟨_, .call ⟨.value (.func 9), _, _⟩, _, _, _, _⟩ :: _) _ _ _); apply WL.callP; (iterate 4 exact rfl); exact law34_lives _; intro w' hx)
      | (show WL _ _ _ _ _ _ _; first | apply WL.nil | (refine WL.au (k := ?_)))
      | (show QL _ _ _ _ _ _ _; first | apply QL.nil | (refine QL.au (k := ?_)))
      | (show Z _ _ _ _ _; first | apply Z.then_normal | apply Z.then_ret)
      | (show W _ _ _ _ _ _; first | apply W.seq | apply W.region | apply W.ret | (apply W.regionD tMix; kernel_rfl))
      | fail)
    exact Z.body1 Try.results3 rfl fun m => ⟨rfl, Ext.at (by (exact extA)) m⟩
  have hk3 : (!dec (OfCs c.t into)) = false := by rw [dec_true hI]; rfl
  have hco := ofCs_ok hO
  have hci := ofCs_ok hI
  obtain ⟨av, hav⟩ : ∃ av, av = askV c.t prop near (cubes out) (cubes into) := ⟨_, rfl⟩
  have hlf := fun (w9 : World) (d : Circ) (h9 : Ext w w9) (hd : d.t = c.t) (hCd : CAt w9 d) => show Lt.Spec Try.prog 10 [d.val, .int .i64 prop, .bool near, .slice ro out.length co, .slice ri into.length ci] w9 (IsAsk w9 av) from hav ▸ hd ▸ lift_Ask d prop near ro ri co ci out into w9 hCd (by rw [hd]; exact hg) (by rw [hd]; exact hz) (Ro.ext h9) (Ri.ext h9) (fun r hr => (hro r hr).ext h9) (fun r hr => (hri r hr).ext h9) (by rw [hd]; exact hco) (by rw [hd]; exact hci)
  have hrf := fun (w9 : World) (h9 : Ext w w9) => show Lt.Spec Try.prog 12 [c.val, .int .i64 prop, .slice ro out.length co, .slice ri into.length ci, .bool near] w9 (IsAsk w9 av) from hav ▸ ref34_Ask c prop near ro ri co ci out into w9 (hC.ext h9) hg hz (Ro.ext h9) (Ri.ext h9) (fun r hr => (hro r hr).ext h9) (fun r hr => (hri r hr).ext h9) hco hci
  have z1 : c.ins.2.2.length ≤ 100000 := hz.1
  have z2 : c.lat.2.2.length ≤ 100000 := hz.2.1
  have hbr := fun (w9 : World) (h9 : Ext w w9) => ref17_Brought ra ca ins (c.ins.2.2.length + c.lat.2.2.length) w9 (Rb.ext h9) (by omega)
  rw [show ((c.ins.2.2.length + c.lat.2.2.length : Nat) : Int) = (c.ins.2.2.length : Int) + (c.lat.2.2.length : Int) from Int.natCast_add _ _] at hbr
  obtain ⟨al, hal⟩ : ∃ al, al = brV ins (c.ins.2.2.length + c.lat.2.2.length) := ⟨_, rfl⟩
  have hall : al.length = c.ins.2.2.length + c.lat.2.2.length := by rw [hal, brV_len]
  rw [← hal] at hbr
  have hkI : (!dec (av.1 = av.1)) = false := by rw [dec_true rfl]; rfl
  have hkT : (!true) = false := rfl
  refine Spec.of _ Try.func3 rfl Try.ntmps3 (by kernel_rfl) rfl ?_
  repeat' (first
    | (apply WL.box; (iterate 3 exact rfl); intro gb w' hb hge hc hx; have hcc := hc; (first | (obtain ⟨h1, h2, h3, _⟩ := hc) | (obtain ⟨h1, h2, _⟩ := hc)); (first | (have h_0 := hcells; clear h_0; obtain ⟨y0, y1, y2, y3, _⟩ := id hcc) | (obtain ⟨gc, rfl⟩ : ∃ x, x = gb := ⟨_, rfl⟩; obtain ⟨wc, rfl⟩ : ∃ x, x = w' := ⟨_, rfl⟩; obtain ⟨hxc, rfl⟩ : ∃ x, x = hx := ⟨_, rfl⟩; have hcells : Cells wc gc 0 c.vals := hcc)))
    | (apply WL.gF; exact rfl; exact rfl; (focus (first | with_reducible exact hkf | with_reducible exact hk2 | with_reducible exact hk3 | with_reducible exact hkI | with_reducible exact hkT; done)))
    | (apply W.condKF; exact rfl; (focus (first | with_reducible exact hkf | with_reducible exact hk2 | with_reducible exact hk3 | with_reducible exact hkI | with_reducible exact hkT; done)))
    | ((show WL _ _ _ (⟨_, .call ⟨.value (.func 7), _, _⟩, _, _, _, _⟩ :: _) _ _ _); apply WL.callP; (iterate 4 exact rfl); exact law11_Small c 12 _ (hC.ext (by (exact extA))) (by decide); intro w' hx)
    | (apply WL.callP; (iterate 4 exact rfl); exact hofO _ (by (exact extA)); intro w' hx)
    | (apply WL.callP; (iterate 4 exact rfl); exact hofI _ (by (exact extA)); intro w' hx)
    | (((show WL _ _ _ (⟨_, .call ⟨.value (.func 11), _, _⟩, _, _, _, _⟩ :: _) _ _ _); apply WL.call; (iterate 4 exact rfl); exact law11_Own c _ (hC.ext (by (exact extA))) hz hz7; rintro v' w4 ⟨hx4, d, rfl, hdt, hOd⟩; have hCd := hOd.at))
    | (((show WL _ _ _ (⟨_, .call ⟨.value (.func 10), _, _⟩, _, _, _, _⟩ :: _) _ _ _); apply WL.call; (iterate 4 exact rfl); exact hlf _ d (by (exact extA)) hdt (hCd.ext (by (exact extA))); rintro v' w5 ⟨hx5, aN, cN, aW, cW, rfl, RN, RW⟩))
    | (((show WL _ _ _ (⟨_, .call ⟨.value (.func 12), _, _⟩, _, _, _, _⟩ :: _) _ _ _); apply WL.call; (iterate 4 exact rfl); exact hrf _ (by (exact extA)); rintro v' w6 ⟨hx6, aM, cM, aX, cX, rfl, RM, RX⟩))
    | ((show WL _ _ _ (⟨_, .call ⟨.value (.func 13), _, _⟩, _, _, _, _⟩ :: _) _ _ _); apply WL.callS; (iterate 4 exact rfl); exact ref07_Same _ _ _ _ av.2 _ (RN.ext (by (exact extA))) (RM.ext (by (exact extA))))
    | ((show WL _ _ _ (⟨_, .call ⟨.value (.func 14), _, _⟩, _, _, _, _⟩ :: _) _ _ _); apply WL.callS; (iterate 4 exact rfl); exact ref_Ints _ _ _ _ av.1 av.1 _ (RW.ext (by (exact extA))) (RX.ext (by (exact extA))))
    | (((show WL _ _ _ (⟨_, .call ⟨.value (.func 15), _, _⟩, _, _, _, _⟩ :: _) _ _ _); apply WL.call; (iterate 4 exact rfl); exact ref17_New c _ (hC.ext (by (exact extA))) hg hz; rintro v' w7 ⟨hx7, gm, rn, raa, rfl, hM, _⟩; have hc7 := hcells.ext (show Ext wc w7 from (by (exact extA))); obtain ⟨u0, u1, u2, _⟩ := id hc7))
    | (apply WL.call; (iterate 4 exact rfl); exact hbr _ (by (exact extA)); rintro v' w' ⟨hx, a', cap', rfl, hO⟩; (obtain ⟨aB, rfl⟩ : ∃ x, x = a' := ⟨_, rfl⟩; obtain ⟨cB, rfl⟩ : ∃ x, x = cap' := ⟨_, rfl⟩; obtain ⟨w8, rfl⟩ : ∃ x, x = w' := ⟨_, rfl⟩; obtain ⟨hx8, rfl⟩ : ∃ x, x = hx := ⟨_, rfl⟩; obtain ⟨hOB, rfl⟩ : ∃ x, x = hO := ⟨_, rfl⟩; have RB := hOB.row encB_ok; have hcB := hOB.capLe; have hc8 := hc7.ext hx8; obtain ⟨v0, v1, v2, _⟩ := id hc8))
    | (apply QL.sliceH tOk; (iterate 7 exact rfl); assumption; (first | exact rfl | (focus (simp only [List.length_set]; done)) | (focus (simp; done)) | (focus (simp [*]; done)) | omega | (focus (simp only [List.length_set]; omega))); (first | assumption | omega); (first | omega | (simp; omega) | (simp at *; omega)); intro hR hc; (have hT92 := fun (_ : True) => hR; clear hR))
    | (apply QL.sliceL tOk; (iterate 8 exact rfl); assumption; (first | exact rfl | (focus (simp only [List.length_set]; done)) | (focus (simp; done)) | (focus (simp [*]; done)) | omega | (focus (simp only [List.length_set]; omega))); (first | assumption | omega); (first | omega | (simp; omega) | (simp at *; omega)); intro as' cs' hR hcs; (obtain ⟨aS, rfl⟩ : ∃ x, x = as' := ⟨_, rfl⟩; obtain ⟨cS, rfl⟩ : ∃ x, x = cs' := ⟨_, rfl⟩; obtain ⟨RST, rfl⟩ : ∃ x, x = hR := ⟨_, rfl⟩; obtain ⟨hcS, rfl⟩ : ∃ x, x = hcs := ⟨_, rfl⟩; have RIN := hT92 trivial))
    | (show WL _ _ _ _ _ _ _; first | apply WL.nil | (refine WL.au (k := ?_)))
    | (show QL _ _ _ _ _ _ _; first | apply QL.nil | (refine QL.au (k := ?_)))
    | (show Z _ _ _ _ _; apply Z.then_normal)
    | (show W _ _ _ _ _ _; first | apply W.seq | apply W.region | apply W.skip | (apply W.regionD tMix; kernel_rfl))
    | fail)
  obtain ⟨st, hst⟩ : ∃ st, st = al.drop ((c.ins.2.2.length : Nat) : Int).toNat := ⟨_, rfl⟩
  obtain ⟨inn, hinn⟩ : ∃ inn, inn = al.take ((c.ins.2.2.length : Nat) : Int).toNat := ⟨_, rfl⟩
  have hstl : st.length = c.lat.2.2.length := by rw [hst, List.length_drop]; omega
  have hinl : inn.length = c.ins.2.2.length := by rw [hinn, List.length_take]; omega
  have hsplit : inn ++ st = al := by rw [hinn, hst]; exact List.take_append_drop _ _
  have RST : Row 1 encB w8 aS st := by rw [hst]; exact RST
  have RIN : Row 1 encB w8 aB inn := by rw [hinn]; exact RIN
  rw [← hst, ← hinn]
  have hM8 := hM.ext hx8
  have hX8 : Ext w w8 := (by (exact extA))
  have hho := fun (w9 : World) (h9 : Ext w8 w9) => ref17_Holds gm c rn raa aS aB cS cB st inn w9 (hM8.ext h9) (RST.ext h9) (RIN.ext h9)
  have hnx := fun (w9 : World) (h9 : Ext w8 w9) => ref17_Next gm c rn raa aS aB cS cB st inn w9 (hM8.ext h9) (RST.ext h9) (RIN.ext h9)
  have hbd := fun (w9 : World) (h9 : Ext w8 w9) => ref17_Bad gm c rn raa aS aB cS cB st inn prop w9 (hM8.ext h9) (RST.ext h9) (RIN.ext h9)
  have e1 : brV st c.t.lat.length = st := by
    apply List.ext_getElem?
    intro j
    by_cases hj : j < c.t.lat.length
    · obtain ⟨x, hx⟩ := getI st (show j < st.length by rw [hstl]; exact hj)
      rw [brV_get st hj, hx, getD_of hx]
    · rw [List.getElem?_eq_none (by rw [brV_len]; omega), List.getElem?_eq_none (by rw [hstl]; exact Nat.le_of_not_lt hj)]
  have e2 : brV inn c.t.ins.length = inn := by
    apply List.ext_getElem?
    intro j
    by_cases hj : j < c.t.ins.length
    · obtain ⟨x, hx⟩ := getI inn (show j < inn.length by rw [hinl]; exact hj)
      rw [brV_get inn hj, hx, getD_of hx]
    · rw [List.getElem?_eq_none (by rw [brV_len]; omega), List.getElem?_eq_none (by rw [hinl]; exact Nat.le_of_not_lt hj)]
  have hins : insV c.t st inn = al := by unfold insV; rw [e1, e2, hsplit]
  obtain ⟨k1, k2, k3⟩ := ask_of (s := st) (i := inn) hg hstl prop near hco hci
  rw [← hav, hins] at k3
  rw [← hav] at k1 k2
  have hgood : GoodNet av.2 := (k1.tidy (net0_tidy hg)).good
  have hal2 : av.2.length ≤ 1048576 := by
    rw [hav]; unfold askV
    obtain ⟨g1, g2, g3⟩ := goalK_inv hg (goal0_has hg prop near) near hci (Nat.le_refl (cubes into).length)
    rw [← goalK_v] at g1 g2 g3
    obtain ⟨t1, t2, t3, t4⟩ := askTo_inv hg (s := (askM c.t c.t.cons ++ [(goalV c.t prop near (cubes into)).1], (goalV c.t prop near (cubes into)).2)) g2 hco (cubes out).length (Nat.le_refl _)
    have h5 := hco.2
    have h6 := (own0_ok hg).2.2
    have h7 := net_len hg hz
    refine Nat.le_trans t3 ?_
    dsimp only
    omega
  obtain ⟨Q, hQ⟩ : ∃ Q : Prop, Q = (if near = true then BadP c.t st inn prop else ∃ r ∈ cubes into, InCube r (nextV c.t st inn)) := ⟨_, rfl⟩
  have hask : AskP c.t st inn prop near (cubes out) (cubes into) ↔ HoldsP c.t st inn ∧ Q ∧ ∀ r ∈ cubes out, ¬ InCube r st := by unfold AskP; rw [hQ]
  clear y0 y1 y2 y3 u0 u1 u2 v0 v1 v2
  have e00 : ∀ r ∈ (cubes out).take 0, ¬ InCube r st := fun r hr => by cases hr
  have three : (near = true ∧ HoldsP c.t st inn) ∨ (near = true ∧ ¬ HoldsP c.t st inn) ∨ near = false := by
    cases near
    · exact .inr (.inr rfl)
    · by_cases h : HoldsP c.t st inn
      · exact .inl ⟨rfl, h⟩
      · exact .inr (.inl ⟨rfl, h⟩)
  repeat' (first
    | (((show WL _ _ _ (⟨_, .call ⟨.value (.func 17), _, _⟩, _, _, _, _⟩ :: _) _ _ _); apply WL.callP; (iterate 4 exact rfl); exact hho _ (by (exact extA)); intro w11 hx11))
    | (((show WL _ _ _ (⟨_, .call ⟨.value (.func 18), _, _⟩, _, _, _, _⟩ :: _) _ _ _); apply WL.call; (iterate 4 exact rfl); exact hnx _ (by (exact extA)); rintro v' w12 ⟨hx12, a12, c12, rfl, hO12⟩))
    | (show WL _ _ _ _ _ _ _; first | apply WL.nil | (refine WL.au (k := ?_)))
    | (show Z _ _ _ _ _; apply Z.then_normal)
    | (show W _ _ _ _ _ _; first | apply W.seq | apply W.region)
    | fail)
  have hXz : Ext w8 w12 := (by (exact extA))
  refine W.cutT (σ := World) (fun s => Ext w8 s) (fun _ => [(9, .slice ro out.length co), (11, .slice aN av.2.length cN), (12, .slice aW av.1.length cW), (16, .slice aB al.length cB), (18, .slice aS st.length cS), (19, .bool (dec (HoldsP c.t st inn ∧ Q)))]) (fun s => s) ?_ ?_
  rcases three with ⟨hnr, hH⟩ | ⟨hnr, hH⟩ | hnr
  · have e19 : dec (HoldsP c.t st inn ∧ Q) = dec (BadP c.t st inn prop) := dec_congr (by rw [hQ, if_pos hnr]; exact ⟨fun h => h.2, fun h => ⟨hH, h⟩⟩)
    repeat' (first
      | (apply WL.gT; exact rfl; exact rfl; (focus (first | exact hnr | with_reducible exact dec_true hH; done)))
      | (apply W.condKT; exact rfl; (focus (first | exact hnr | with_reducible exact dec_true hH; done)))
      | (((show WL _ _ _ (⟨_, .call ⟨.value (.func 19), _, _⟩, _, _, _, _⟩ :: _) _ _ _); apply WL.callP; (iterate 4 exact rfl); exact hbd _ (by (exact extA)); intro w13 hx13))
      | (show WL _ _ _ _ _ _ _; first | apply WL.nil | (refine WL.au (k := ?_)))
      | (show W _ _ _ _ _ _; apply W.region)
      | fail)
    exact Z.cut _ (hXz.trans hx13) (by repeat' first | exact trivial | (refine And.intro ?_ ?_) | exact rfl | (rw [e19]; exact rfl)) rfl
  · have e19 : dec (HoldsP c.t st inn ∧ Q) = false := dec_false fun h => hH h.1
    repeat' (first
      | (apply WL.gF; exact rfl; exact rfl; (focus (first | exact hnr | with_reducible exact dec_false hH; done)))
      | (apply W.condKT; exact rfl; (focus (first | exact hnr | with_reducible exact dec_false hH; done)))
      | (show WL _ _ _ _ _ _ _; first | apply WL.nil | (refine WL.au (k := ?_)) | (apply WL.guardF; exact rfl; exact rfl))
      | (show W _ _ _ _ _ _; apply W.region)
      | fail)
    exact Z.cut _ hXz (by repeat' first | exact trivial | (refine And.intro ?_ ?_) | exact rfl | (rw [e19]; exact rfl)) rfl
  · have hnt : ¬ near = true := fun h => by rw [hnr] at h; cases h
    have hQ2 : Q = ∃ r ∈ cubes into, InCube r (nextV c.t st inn) := by rw [hQ, if_neg hnt]
    repeat' (first
      | (apply W.condKF; exact rfl; (focus (exact hnr; done)))
      | (show WL _ _ _ _ _ _ _; first | apply WL.nil | (refine WL.au (k := ?_)))
      | (show Z _ _ _ _ _; apply Z.then_normal)
      | (show W _ _ _ _ _ _; first | apply W.seq | apply W.region | apply W.block)
      | fail)
    have hXw : Ext w w12 := hX8.trans hXz
    have RNX : Row 1 encB w12 a12 (nextV c.t st inn) := hO12.row encB_ok
    have hcl : (cubes into).length = into.length := List.length_map _
    have ea0 : dec (∃ r ∈ (cubes into).take 0, InCube r (nextV c.t st inn)) = false := dec_false fun ⟨r, hr, _⟩ => by cases hr
    refine W.loop1 into.length (fun k => k ≤ into.length) (fun k => [(9, .slice ro out.length co), (10, .slice ri into.length ci), (11, .slice aN av.2.length cN), (12, .slice aW av.1.length cW), (16, .slice aB al.length cB), (18, .slice aS st.length cS), (19, .bool (dec (HoldsP c.t st inn))), (20, .slice a12 (nextV c.t st inn).length c12), (21, .bool (dec (∃ r ∈ (cubes into).take k, InCube r (nextV c.t st inn)))), (22, .int .i64 k)]) (Nat.zero_le _) (fun k h => h) (by repeat' first | exact trivial | (refine And.intro ?_ ?_) | exact rfl | (rw [ea0]; exact rfl)) ?_
    rintro k hk
    have h20i := hci.2
    by_cases hlt : k < into.length
    · obtain ⟨q, hq⟩ := getI into hlt
      have hqm := List.mem_of_getElem? hq
      have hqc : (cubes into)[k]? = some q.2.2 := by unfold cubes; rw [List.getElem?_map, hq]; rfl
      have Riz := Ri.ext hXw
      have Rq := (hri q hqm).ext hXw
      have hhas := fun (w9 : World) (h9 : Ext w12 w9) => ref32_Has q.1 a12 q.2.1 c12 q.2.2 (nextV c.t st inn) w9 (Rq.ext h9) (RNX.ext h9) (hmi q hqm)
      by_cases hA : ∃ r ∈ (cubes into).take k, InCube r (nextV c.t st inn)
      · have e1 : dec (∃ r ∈ (cubes into).take (k + 1), InCube r (nextV c.t st inn)) = true := dec_true (by obtain ⟨r, hr, h1⟩ := hA; exact ⟨r, by rw [take_succ' hqc]; exact List.mem_append_left _ hr, h1⟩)
        repeat' (first
          | (apply WL.gT; exact rfl; exact rfl; (focus (first | with_reducible exact dec_true hA | exact dec_true (by omega); done)))
          | (apply W.condKT; exact rfl; (focus (first | with_reducible exact dec_true hA | exact dec_true (by omega); done)))
          | (show WL _ _ _ _ _ _ _; first | apply WL.nil | (refine WL.au (k := ?_)) | (apply WL.guardF; exact rfl; exact rfl))
          | (show Z _ _ _ _ _; first | apply Z.then_normal | apply Z.block_normal)
          | (show W _ _ _ _ _ _; first | apply W.seq | apply W.region | apply W.block | apply W.skip)
          | fail)
        exact Z.again1 (by omega) (by repeat' first | exact trivial | (refine And.intro ?_ ?_) | exact rfl | (rw [e1]; exact rfl))
      · have e1 : dec (∃ r ∈ (cubes into).take (k + 1), InCube r (nextV c.t st inn)) = dec (InCube q.2.2 (nextV c.t st inn)) := dec_congr (by
          rw [take_succ' hqc]
          constructor
          · rintro ⟨r, hr, h1⟩
            rcases List.mem_append.1 hr with hr | hr
            · exact absurd ⟨r, hr, h1⟩ hA
            · rw [List.mem_singleton.1 hr] at h1; exact h1
          · exact fun h => ⟨_, List.mem_append_right _ (List.mem_singleton.2 rfl), h⟩)
        repeat' (first
          | (apply WL.gF; exact rfl; exact rfl; (focus (first | with_reducible exact dec_false hA | exact dec_true (by omega); done)))
          | (apply W.condKT; exact rfl; (focus (first | with_reducible exact dec_false hA | exact dec_true (by omega); done)))
          | (apply WL.callS; (iterate 4 exact rfl); (apply hhas _; (exact extA)))
          | (show WL _ _ _ _ _ _ _; first | apply WL.nil | (refine WL.au (k := ?_)) | (apply WL.index tOk; (iterate 8 exact rfl); assumption; (exact extA); exact rfl; omega; assumption; intro b off h; have hcc := h; first | (obtain ⟨h1, h2, h3, h4, h5, h6, _⟩ := h) | (obtain ⟨h1, h2, h3, _⟩ := h) | (obtain ⟨h1, h2, _⟩ := h) | (obtain ⟨h1, _⟩ := h)))
          | (show Z _ _ _ _ _; first | apply Z.then_normal | apply Z.block_normal)
          | (show W _ _ _ _ _ _; first | apply W.seq | apply W.region | apply W.block | apply W.skip)
          | fail)
        exact Z.again1 (by omega) (by repeat' first | exact trivial | (refine And.intro ?_ ?_) | exact rfl | (rw [e1]; exact rfl))
    obtain rfl : k = into.length := by omega
    rw [show (cubes into).take into.length = cubes into by rw [← hcl, List.take_length]]
    by_cases hH : HoldsP c.t st inn
    · have e19 : dec (HoldsP c.t st inn ∧ Q) = dec (∃ r ∈ cubes into, InCube r (nextV c.t st inn)) := dec_congr (by rw [hQ2]; exact ⟨fun h => h.2, fun h => ⟨hH, h⟩⟩)
      repeat' (first
        | (apply WL.gT; exact rfl; exact rfl; (focus (first | with_reducible exact dec_true hH | exact dec_false (by omega); done)))
        | (apply W.condKF; exact rfl; (focus (first | with_reducible exact dec_true hH | exact dec_false (by omega); done)))
        | (show WL _ _ _ _ _ _ _; first | apply WL.nil | (refine WL.au (k := ?_)))
        | (show Z _ _ _ _ _; first | apply Z.then_normal | apply Z.then_exit | apply Z.block_exit)
        | (show W _ _ _ _ _ _; first | apply W.seq | apply W.region | apply W.exit)
        | fail)
      exact Z.cut _ hXz (by repeat' first | exact trivial | (refine And.intro ?_ ?_) | exact rfl | (rw [e19]; exact rfl)) rfl
    · have e19 : dec (HoldsP c.t st inn ∧ Q) = false := dec_false fun h => hH h.1
      repeat' (first
        | (apply WL.gF; exact rfl; exact rfl; (focus (first | with_reducible exact dec_false hH | exact dec_false (by omega); done)))
        | (apply W.condKF; exact rfl; (focus (first | with_reducible exact dec_false hH | exact dec_false (by omega); done)))
        | (show WL _ _ _ _ _ _ _; first | apply WL.nil | (refine WL.au (k := ?_)) | (apply WL.guardF; exact rfl; exact rfl))
        | (show Z _ _ _ _ _; first | apply Z.then_normal | apply Z.then_exit | apply Z.block_exit)
        | (show W _ _ _ _ _ _; first | apply W.seq | apply W.region | apply W.exit)
        | fail)
      exact Z.cut _ hXz (by repeat' first | exact trivial | (refine And.intro ?_ ?_) | exact rfl | (rw [e19]; exact rfl)) rfl
  rintro wz hXz
  have e19 : dec (HoldsP c.t st inn ∧ Q ∧ ∀ r ∈ (cubes out).take 0, ¬ InCube r st) = dec (HoldsP c.t st inn ∧ Q) := dec_congr ⟨fun h => ⟨h.1, h.2.1⟩, fun h => ⟨h.1, h.2, e00⟩⟩
  repeat' (first
    | (show WL _ _ _ _ _ _ _; first | apply WL.nil | (refine WL.au (k := ?_)))
    | (show Z _ _ _ _ _; apply Z.then_normal)
    | (show W _ _ _ _ _ _; first | apply W.seq | apply W.region | apply W.block)
    | fail)
  have hXw : Ext w wz := hX8.trans hXz
  have hol : (cubes out).length = out.length := List.length_map _
  have h20o := hco.2
  refine W.loop1 out.length (fun k => k ≤ out.length) (fun k => [(9, .slice ro out.length co), (11, .slice aN av.2.length cN), (12, .slice aW av.1.length cW), (16, .slice aB al.length cB), (18, .slice aS st.length cS), (19, .bool (dec (HoldsP c.t st inn ∧ Q ∧ ∀ r ∈ (cubes out).take k, ¬ InCube r st))), (23, .int .i64 k)]) (Nat.zero_le _) (fun k h => h) (by repeat' first | exact trivial | (refine And.intro ?_ ?_) | exact rfl | (rw [e19]; exact rfl)) ?_
  rintro k hk
  by_cases hlt : k < out.length
  · obtain ⟨q, hq⟩ := getI out hlt
    have hqm := List.mem_of_getElem? hq
    have hqc : (cubes out)[k]? = some q.2.2 := by unfold cubes; rw [List.getElem?_map, hq]; rfl
    have Roz := Ro.ext hXw
    have Rq := (hro q hqm).ext hXw
    have hhas := fun (w9 : World) (h9 : Ext wz w9) => ref32_Has q.1 aS q.2.1 cS q.2.2 st w9 (Rq.ext h9) (RST.ext (hXz.trans h9)) (hmo q hqm)
    by_cases hA : HoldsP c.t st inn ∧ Q ∧ ∀ r ∈ (cubes out).take k, ¬ InCube r st
    · have e1 : dec (HoldsP c.t st inn ∧ Q ∧ ∀ r ∈ (cubes out).take (k + 1), ¬ InCube r st) = !dec (InCube q.2.2 st) := by
        rw [take_succ' hqc]
        by_cases hin : InCube q.2.2 st
        · rw [dec_true hin, dec_false (fun h => h.2.2 _ (List.mem_append_right _ (List.mem_singleton.2 rfl)) hin)]; rfl
        · have hn2 : ∀ r ∈ (cubes out).take k ++ [q.2.2], ¬ InCube r st := fun r hr => by
            rcases List.mem_append.1 hr with hr | hr
            · exact hA.2.2 r hr
            · rw [List.mem_singleton.1 hr]; exact hin
          rw [dec_false hin, dec_true ⟨hA.1, hA.2.1, hn2⟩]; rfl
      repeat' (first
        | (apply WL.gT; exact rfl; exact rfl; (focus (first | with_reducible exact dec_true hA | exact dec_true (by omega); done)))
        | (apply W.condKT; exact rfl; (focus (first | with_reducible exact dec_true hA | exact dec_true (by omega); done)))
        | (apply WL.callS; (iterate 4 exact rfl); (apply hhas _; (exact extA)))
        | (show WL _ _ _ _ _ _ _; first | apply WL.nil | (refine WL.au (k := ?_)) | (apply WL.index tOk; (iterate 8 exact rfl); assumption; (exact extA); exact rfl; omega; assumption; intro b off h; have hcc := h; first | (obtain ⟨h1, h2, h3, h4, h5, h6, _⟩ := h) | (obtain ⟨h1, h2, h3, _⟩ := h) | (obtain ⟨h1, h2, _⟩ := h) | (obtain ⟨h1, _⟩ := h)))
        | (show Z _ _ _ _ _; first | apply Z.then_normal | apply Z.block_normal)
        | (show W _ _ _ _ _ _; first | apply W.seq | apply W.region | apply W.block | apply W.skip)
        | fail)
      exact Z.again1 (by omega) (by repeat' first | exact trivial | (refine And.intro ?_ ?_) | exact rfl | (rw [e1]; exact rfl))
    · have e1 : dec (HoldsP c.t st inn ∧ Q ∧ ∀ r ∈ (cubes out).take (k + 1), ¬ InCube r st) = false := dec_false fun h => hA ⟨h.1, h.2.1, fun r hr => h.2.2 r (by rw [take_succ' hqc]; exact List.mem_append_left _ hr)⟩
      repeat' (first
        | (apply WL.gF; exact rfl; exact rfl; (focus (first | with_reducible exact dec_false hA | exact dec_true (by omega); done)))
        | (apply W.condKT; exact rfl; (focus (first | with_reducible exact dec_false hA | exact dec_true (by omega); done)))
        | (show WL _ _ _ _ _ _ _; first | apply WL.nil | (refine WL.au (k := ?_)) | (apply WL.guardF; exact rfl; exact rfl))
        | (show Z _ _ _ _ _; first | apply Z.then_normal | apply Z.block_normal)
        | (show W _ _ _ _ _ _; first | apply W.seq | apply W.region | apply W.block | apply W.skip)
        | fail)
      exact Z.again1 (by omega) (by repeat' first | exact trivial | (refine And.intro ?_ ?_) | exact rfl | (rw [e1]; exact rfl))
  obtain rfl : k = out.length := by omega
  rw [show (cubes out).take out.length = cubes out by rw [← hol, List.take_length]]
  have hl2 : ∀ z ∈ av.1, 0 ≤ z ∧ z / 2 < (values av.2 al).length ∧ z ≤ 9223372036854775807 := fun z hz => by
    have := k2 z hz
    unfold hasL at this
    have hvl := values_len' av.2 al
    omega
  have hvs := fun (w9 : World) (h9 : Ext wz w9) => ref07_Values aN aB cN cB av.2 al w9 (RN.ext (by first | exact (by (exact extA)) | exact Ext.trans (by (exact extA)) h9)) (RB.ext (hXz.trans h9)) hgood hal2
  have heq : dec (∀ z ∈ av.1, ofL (values av.2 al) z = true) = dec (HoldsP c.t st inn ∧ Q ∧ ∀ r ∈ cubes out, ¬ InCube r st) := dec_congr (k3.trans hask)
  have heq2 : dec (dec (∀ z ∈ av.1, ofL (values av.2 al) z = true) = dec (HoldsP c.t st inn ∧ Q ∧ ∀ r ∈ cubes out, ¬ InCube r st)) = true := dec_true heq
  repeat' (first
    | (apply WL.gT; exact rfl; exact rfl; (focus (first | exact dec_false (by omega) | with_reducible exact heq2; done)))
    | (apply W.condKF; exact rfl; (focus (first | exact dec_false (by omega) | with_reducible exact heq2; done)))
    | (apply WL.call; (iterate 4 exact rfl); exact hvs _ (by (exact extA)); rintro v' w' ⟨hx, a', cap', rfl, hO⟩; (obtain ⟨aV, rfl⟩ : ∃ x, x = a' := ⟨_, rfl⟩; obtain ⟨cV, rfl⟩ : ∃ x, x = cap' := ⟨_, rfl⟩; obtain ⟨wV, rfl⟩ : ∃ x, x = w' := ⟨_, rfl⟩; obtain ⟨hxV, rfl⟩ : ∃ x, x = hx := ⟨_, rfl⟩; obtain ⟨hOV, rfl⟩ : ∃ x, x = hO := ⟨_, rfl⟩; have RV := hOV.row encB_ok))
    | ((show WL _ _ _ (⟨_, .call ⟨.value (.func 21), _, _⟩, _, _, _, _⟩ :: _) _ _ _); apply WL.callS; (iterate 4 exact rfl); exact ref27_All _ _ _ _ (values av.2 al) av.1 _ (RV.ext (by (exact extA))) (RW.ext (by (exact extA))) hl2)
    | ((show WL _ _ _ (⟨_, .call ⟨.value (.func 9), _, _⟩, _, _, _, _⟩ :: _) _ _ _); apply WL.callP; (iterate 4 exact rfl); exact law34_lives _; intro w' hx)
    | (show WL _ _ _ _ _ _ _; first | apply WL.nil | (refine WL.au (k := ?_)))
    | (show Z _ _ _ _ _; first | apply Z.then_normal | apply Z.then_exit | apply Z.block_exit)
    | (show W _ _ _ _ _ _; first | apply W.seq | apply W.region | apply W.ret | apply W.exit)
    | fail)
  exact Z.body1 Try.results3 rfl fun m => ⟨rfl, Ext.at (hXw.trans (by (exact extA))) m⟩
end Go.Proofs.Yteidpnpbfagaeaa
namespace Go.Proofs.Yteidpnpbfagaeaa
open Go Go.Lt Go.RowKit Go.ChangeShapes Go.WideShapes Go.ChangeAt Go.Deep
set_option linter.unusedVariables false
set_option linter.unusedSimpArgs false
set_option maxRecDepth 20000

set_option maxRecDepth 20000 in
theorem circ_of {H : Type} {en : TypeId × Value → H} {w : World} {base : Nat} {spare : Nat → Bool} {held : Bool} {r : Reach} {b0 : Nat} {v : Value} {d : DataW H} {ps : List MemPlace} (hval : Value.okWide Try.prog w r b0 27 v) (hd : DataW.Trod en Try.prog w base spare held 27 v d ps) : ∃ c : Circ, v = c.val ∧ CAt w c := by
  obtain ⟨⟨m, ins, lat, outs, bads, cons, gates, syms, com, _⟩, hv, _, ki, kl, ko, kb, kc, kg, ks, _⟩ := struct_of (reads_struct Try.underlying27 (by kernel_rfl) (by kernel_rfl) (readsF_cons (reads_int Try.underlying3) (readsF_cons (reads_row (s := 1) (reads_int Try.underlying3) (by kernel_rfl) Try.underlying22 (fun _ => rfl) (by decide)) (readsF_cons (reads_row (s := 3) (reads_triple' (s0 := 1) (s1 := 1) (s2 := 1) Try.underlying87 (reads_int Try.underlying3) (reads_int Try.underlying3) (reads_int Try.underlying3) (by kernel_rfl) rfl rfl rfl (by kernel_rfl) (by kernel_rfl) (by kernel_rfl)) (by kernel_rfl) Try.underlying23 (fun _ => rfl) (by decide)) (readsF_cons (reads_row (s := 1) (reads_int Try.underlying3) (by kernel_rfl) Try.underlying22 (fun _ => rfl) (by decide)) (readsF_cons (reads_row (s := 1) (reads_int Try.underlying3) (by kernel_rfl) Try.underlying22 (fun _ => rfl) (by decide)) (readsF_cons (reads_row (s := 1) (reads_int Try.underlying3) (by kernel_rfl) Try.underlying22 (fun _ => rfl) (by decide)) (readsF_cons (reads_row (s := 3) (reads_triple' (s0 := 1) (s1 := 1) (s2 := 1) Try.underlying89 (reads_int Try.underlying3) (reads_int Try.underlying3) (reads_int Try.underlying3) (by kernel_rfl) rfl rfl rfl (by kernel_rfl) (by kernel_rfl) (by kernel_rfl)) (by kernel_rfl) Try.underlying24 (fun _ => rfl) (by decide)) (readsF_cons (reads_row (s := 3) (reads_triple' (s0 := 1) (s1 := 1) (s2 := 1) Try.underlying150 (reads_int Try.underlying5) (reads_int Try.underlying3) (reads_string Try.underlying9) (by kernel_rfl) rfl rfl rfl (by kernel_rfl) (by kernel_rfl) (by kernel_rfl)) (by kernel_rfl) Try.underlying25 (fun _ => rfl) (by decide)) (readsF_cons (reads_string Try.underlying9) (readsF_nil _))))))))))) Try.underlying27 hval hd
  exact ⟨⟨m, ins, lat, outs, bads, cons, gates, syms, com⟩, hv, ⟨ki.1, ki.2.1, ki.2.2.2.1⟩, ⟨kl.1, kl.2.1, kl.2.2.2.1⟩, ⟨ko.1, ko.2.1, ko.2.2.2.1⟩, ⟨kb.1, kb.2.1, kb.2.2.2.1⟩, ⟨kc.1, kc.2.1, kc.2.2.2.1⟩, ⟨kg.1, kg.2.1, kg.2.2.2.1⟩, ⟨ks.1, ks.2.1, ks.2.2.2.1⟩⟩
end Go.Proofs.Yteidpnpbfagaeaa
namespace Go.Proofs.Yteidpnpbfagaeaa
open Go Go.Lt Go.RowKit Go.ChangeShapes Go.WideShapes Go.ChangeAt Go.Deep
set_option linter.unusedVariables false
set_option linter.unusedSimpArgs false
set_option maxRecDepth 20000

set_option maxRecDepth 20000 in
theorem ask_arg {H : Type} {en : TypeId × Value → H} {w : World} {base : Nat} {spare : Nat → Bool} {held : Bool} {r : Reach} {b0 : Nat} {v : Value} {d : DataW H} {ps : List MemPlace} (hval : Value.okWide Try.prog w r b0 30 v) (hd : DataW.Trod en Try.prog w base spare held 30 v d ps) : ∃ (p : Int) (near : Bool) (ro ri : Option Addr) (co ci : Nat) (out into : List (RowV Int)), v = askSt p near ro ri co ci out into ∧ Row 1 encRow w ro out ∧ Row 1 encRow w ri into ∧ (∀ r ∈ out, Row 1 encI w r.1 r.2.2) ∧ (∀ r ∈ into, Row 1 encI w r.1 r.2.2) ∧ (∀ r ∈ out, ∀ x ∈ r.2.2, x ≤ 9223372036854775807) ∧ (∀ r ∈ into, ∀ x ∈ r.2.2, x ≤ 9223372036854775807) := by
  obtain ⟨⟨p, near, out, into, _⟩, hv, kp, kn, ko, ki, _⟩ := struct_of (reads_struct Try.underlying30 (by kernel_rfl) (by kernel_rfl) (readsF_cons (reads_int Try.underlying3) (readsF_cons (reads_bool Try.underlying4) (readsF_cons (reads_row (s := 1) (reads_row (s := 1) (reads_int Try.underlying3) (by kernel_rfl) Try.underlying22 (fun _ => rfl) (by decide)) (by kernel_rfl) Try.underlying28 (fun _ => rfl) (by decide)) (readsF_cons (reads_row (s := 1) (reads_row (s := 1) (reads_int Try.underlying3) (by kernel_rfl) Try.underlying22 (fun _ => rfl) (by decide)) (by kernel_rfl) Try.underlying28 (fun _ => rfl) (by decide)) (readsF_nil _)))))) Try.underlying30 hval hd
  refine ⟨p, near, out.1, into.1, out.2.1, into.2.1, out.2.2, into.2.2, hv, ko.1, ki.1, fun x hx => (ko.2.2.2.2 x hx).1, fun x hx => (ki.2.2.2.2 x hx).1, fun x hx y hy => ?_, fun x hx y hy => ?_⟩
  · exact (wf_i64 ((ko.2.2.2.2 x hx).2.2.2.2 y hy)).2
  · exact (wf_i64 ((ki.2.2.2.2 x hx).2.2.2.2 y hy)).2
end Go.Proofs.Yteidpnpbfagaeaa
namespace Go.Proofs.Yteidpnpbfagaeaa
open Go Go.Lt Go.ChangeShapes Go.WideShapes Go.ChangeAt Go.RowKit
set_option linter.unusedVariables false
set_option linter.unusedSimpArgs false
set_option maxRecDepth 20000
open Go.ChangeMaps (open_string shut_string)
namespace liftAsks
theorem own : ownKnob Try.prog.godebug = none := by kernel_rfl
theorem laidOut : laidOutB Try.prog = true := factLaid
set_option maxRecDepth 100000 in
theorem lifted (os : Os) (started : os.Started) (H : Type) (enc : TypeId × Value → H) :
    ReturnsInHanded {} Try.checked os 3 .any (Rows.liftAsksSpec.pre6 enc Try.prog Try.f3 Rows.liftAsksRow.domain false) (Rows.liftAsksSpec.post enc Try.prog Try.f3 false true false false) := by
  refine returnsInHanded_of_change (C := Try.checked) own started (by kernel_rfl) Try.func3
    (ChangeSpec.witness6 (enc := enc) (C := Try.checked) false ⟨#[], #[.agg #[.int .i64 0, .slice none 0 0, .slice none 0 0, .slice none 0 0, .slice none 0 0, .slice none 0 0, .slice none 0 0, .slice none 0 0, .string ⟨#[]⟩], .agg #[.int .i64 0, .bool false, .slice none 0 0, .slice none 0 0], .slice none 0 0], []⟩ 8 (by kernel_rfl) (by kernel_rfl) (by kernel_rfl) (by kernel_rfl)) ?_
  intro W base args ds gs before hval0 hW hcnd _
  have hval : ∀ (j : Nat) t v, Try.f3.params[j]? = some t → args[j]? = some v → Value.okWide Try.prog W .any base t v := hval0
  have hW' := hW
  obtain ⟨p, q, hA0, hV, rfl, hfz, hnd⟩ := hW
  have hA : DataW.TrodAll enc Try.prog W 0 (fun _ => true) true Try.f3.params.toList args.toList ds p := hA0
  rw [Try.params3] at hA hval
  obtain ⟨v0, vs0, d0, ds0, p0, q0, hargs, rfl, rfl, h0, r0⟩ := trodAll_cons hA
  obtain ⟨v1, vs1, d1, ds1, p1, q1, rfl, rfl, rfl, h1, r1⟩ := trodAll_cons r0
  obtain ⟨v2, vs2, d2, ds2, p2, q2, rfl, rfl, rfl, h2, r2⟩ := trodAll_cons r1
  obtain ⟨rfl, rfl, rfl⟩ := trodAll_nil r2
  obtain rfl : args = #[v0, v1, v2] := by cases args; simp_all
  obtain ⟨rfl, rfl⟩ := trodVars_none hV
  have k0 := h0
  have lt0 : ∀ x ∈ p0, x.block < W.heap.size := by obtain ⟨m, hm⟩ := k0; exact DataW.trod_lt m _ _ _ hm
  have k1 := h1
  have lt1 : ∀ x ∈ p1, x.block < W.heap.size := by obtain ⟨m, hm⟩ := k1; exact DataW.trod_lt m _ _ _ hm
  have k2 := h2
  have lt2 : ∀ x ∈ p2, x.block < W.heap.size := by obtain ⟨m, hm⟩ := k2; exact DataW.trod_lt m _ _ _ hm
  obtain ⟨c0, rfl, hC0⟩ := circ_of (hval 0 27 v0 rfl rfl) h0
  obtain ⟨n1, nr1, ro1, ri1, co1, ci1, lo1, li1, rfl, RO1, RI1, ho1, hi1, mo1, mi1⟩ := ask_arg (hval 1 30 v1 rfl rfl) h1
  obtain ⟨a2, l2, cap2, rfl, hl2, hm2, hna2, R2, w2⟩ := row_of (s := 1) (reads_bool Try.underlying4) (by kernel_rfl) Try.underlying31 (fun _ => rfl) (by decide) (hval 2 31 v2 rfl rfl) h2
  clear hA0 hval0
  refine (Spec.law (law_LiftAsks c0 n1 nr1 ro1 ri1 a2 co1 ci1 cap2 lo1 li1 l2 W hC0 RO1 RI1 ho1 hi1 R2 mo1 mi1)).mono fun e W' ⟨he, bel⟩ => ?_
  subst he
  exact ⟨_, rfl, _, _, _, [], _, [], hW', trodAll_mk1 (shut_bool Try.underlying4 _), (trodAll_cons_mk (Below.trod laidOut (by kernel_rfl) (of_decide_eq_true (by kernel_rfl)) k0 bel lt0) (trodAll_cons_mk (Below.trod laidOut (by kernel_rfl) (of_decide_eq_true (by kernel_rfl)) k1 bel lt1) (trodAll_cons_mk (Below.trod laidOut (by kernel_rfl) (of_decide_eq_true (by kernel_rfl)) k2 bel lt2) trodAll_mk0))), rfl, bel.frame _, fun h => by cases h⟩
theorem j0 : (Rows.liftAsksRow.wf (OpenSpec.ofChange Rows.liftAsksSpec)) = true := by kernel_rfl
theorem j3 : (Try.f3.params.all (Try.prog.readableRec ·)) = true := by kernel_rfl
theorem j4 : (namedTie Try.prog Rows.liftAsksRow.named Rows.liftAsksSpec.vars) = true := by kernel_rfl
theorem j5 : ((Rows.liftAsksRow.stops == [])) = true := by kernel_rfl
theorem j7 : ((Rows.liftAsksRow.knobs == [])) = true := by kernel_rfl
theorem j9 : ((Rows.liftAsksRow.inPlace == Try.prog.inPlace 3)) = true := by kernel_rfl
theorem j10 : ((Rows.liftAsksRow.unfollowed == Try.prog.unfollowed 3)) = true := by kernel_rfl
theorem j11 : ((Rows.liftAsksRow.recurses == Try.prog.recurses 3)) = true := by kernel_rfl
theorem j12 : ((Rows.liftAsksRow.named == Try.prog.varsNamed 3)) = true := by kernel_rfl
theorem j13 : ((Rows.liftAsksRow.maps == (Try.f3.params.toList ++ Rows.liftAsksSpec.plain.varTypes Try.prog).any (Try.prog.mapsRec ·))) = true := by kernel_rfl
theorem j14 : ((Rows.liftAsksRow.ifaces == (Try.f3.params.toList ++ Rows.liftAsksSpec.plain.varTypes Try.prog).any (Try.prog.ifacesRec ·))) = true := by kernel_rfl
theorem j15 : ((Rows.liftAsksRow.mapsOut == Try.prog.mapsAmong Try.f3.resultTypes.toList)) = true := by kernel_rfl
theorem j16 : ((Rows.liftAsksRow.loops == (Try.f3.params.toList ++ Rows.liftAsksSpec.plain.varTypes Try.prog).any (Try.prog.loopsFrom ·))) = true := by kernel_rfl
theorem j17 : ((Rows.liftAsksRow.wideKeys == (Try.f3.params.toList ++ Rows.liftAsksSpec.plain.varTypes Try.prog ++ Try.f3.resultTypes.toList).any (Try.prog.wideKeysFrom ·))) = true := by kernel_rfl
theorem j18 : (Rows.liftAsksSpec.vars.all (Try.prog.varReadable ·)) = true := by kernel_rfl
theorem j19 : (Try.f3.resultTypes.all (fun t => Try.prog.readableRec t && decide (t < Try.prog.types.size))) = true := by kernel_rfl
theorem j20 : ((Rows.liftAsksRow.ifacesOut == Try.f3.resultTypes.toList.any (Try.prog.ifacesRec ·))) = true := by kernel_rfl
theorem j21 : ((Rows.liftAsksRow.loopsOut == Try.f3.resultTypes.toList.any (Try.prog.loopsFrom ·))) = true := by kernel_rfl
theorem j22 : ((Rows.liftAsksRow.plainKeys == Try.prog.plainKeys)) = true := by rw [show Rows.liftAsksRow.plainKeys = Rows.liftAsksRow.plainKeys by kernel_rfl]; exact factKeys
theorem j23 : (Rows.liftAsksRow.shortTexts.isNone) = true := by kernel_rfl
theorem j26 : ((Rows.liftAsksRow.lifted == Try.prog.liftsFinal)) = true := by rw [show Rows.liftAsksRow.lifted = Rows.liftAsksRow.lifted by kernel_rfl]; exact factLifts
theorem j27 : ((Try.prog.make == some Rows.liftAsksRow.make)) = true := by rw [show Rows.liftAsksRow.make = Rows.liftAsksRow.make by kernel_rfl]; exact factMake
theorem j28 : ((Rows.liftAsksRow.kinds == (if Rows.liftAsksRow.domain.isEmpty then [] else Try.f3.params.toList.map fun t => match Try.prog.underlying t with | some (.int k) => some k | _ => none))) = true := by kernel_rfl
theorem j29 : ((Rows.liftAsksRow.pinned == Rows.liftAsksRow.pinnedBy)) = true := by kernel_rfl
theorem j30 : ((Rows.liftAsksRow.veiled == (Try.f3.params.toList ++ Rows.liftAsksSpec.plain.varTypes Try.prog ++ Try.f3.resultTypes.toList).any (Try.prog.veiledRec ·))) = true := by kernel_rfl
theorem j31 : (Rows.liftAsksRow.veiledFits Try.prog Try.f3.params.toList (Try.f3.params.toList ++ Rows.liftAsksSpec.plain.varTypes Try.prog ++ Try.f3.resultTypes.toList)) = true := by kernel_rfl
set_option maxRecDepth 100000 in
theorem closed : joinedFacts Try.checked.prog 3 Try.f3 Rows.liftAsksSpec Rows.liftAsksRow = true := by unfold joinedFacts; exact (band (band (band (band (band (band (band (band (band (band (band (band (band (band (band (band (band (band (band (band (band (band (band (band (band (band (band (band (band (band (band j0 factLaid) factMaps) j3) j4) j5) factStops) j7) factKnobs) j9) j10) j11) j12) j13) j14) j15) j16) j17) j18) j19) j20) j21) j22) j23) factHeard) factEnter) j26) j27) j28) j29) j30) j31)
theorem named : Try.checked.prog.funcNamed Rows.liftAsksRow.func = some 3 := by kernel_rfl
theorem over : Rows.liftAsksRow.holds Try.pinned (OpenSpec.ofChange Rows.liftAsksSpec) :=
  OpenClaim.holds_of_wide 3 Try.f3 rfl rfl rfl rfl rfl rfl rfl ⟨rfl, rfl, rfl, rfl, rfl⟩ rfl rfl rfl rfl rfl named Try.func3 closed
    (of_decide_eq_true (by kernel_rfl)) (by unfold Func.isWrapper; first | (rw [if_pos (by decide +kernel)]; kernel_rfl) | (rw [if_neg (by decide +kernel)]; exact ⟨rfl, rfl⟩))
    (fun os started H enc _ => lifted os started H enc)
/-- The statement. -/
theorem proved : Rows.LiftAsksSaid := over
end liftAsks
end Go.Proofs.Yteidpnpbfagaeaa
