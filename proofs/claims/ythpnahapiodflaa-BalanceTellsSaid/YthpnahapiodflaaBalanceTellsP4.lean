/- BalanceTells: how often the variables of a good net are used, what any gate is all of, and the net with shorter ways. No conditions. -/
import Derived.Test.YthpnahapiodflaaRows
import Derived.Lib.SmallJoins
import Derived.KernelRfl
import Derived.WalkKit
import Derived.ProofKit
import Derived.Deep.Quiet
import Derived.Deep.LoopGhost
import Derived.StillTail
import Derived.Test.YthpnahapiodflaaProg
import Derived.OpenShut
import Derived.ShutString
import Derived.ChangeOld
import Derived.Deep.Slices
import Derived.SizedLaws
import Derived.Laws.StructEq
import Derived.Laws.Externs
import Derived.MapKept
import Derived.Test.YthpnahapiodflaaBalanceTellsP3
namespace Go.Proofs.Ythpnahapiodflaa
open Go Go.Lt Go.RowKit
set_option linter.unusedVariables false
set_option linter.unusedSimpArgs false
set_option maxRecDepth 20000

set_option maxHeartbeats 8000000 in
theorem rs_AndLe (gs cap : Nat) (a : Option Addr) (N : List (Int × Int)) (x y : Int) (rest : List Piece) (w w0 : World) (hX : Ext w0 w) (hS : Sep w0.heap.size w (rsN w0.heap.size gs a cap N ++ rest)) (hN : N.length < 1048576) (hxy : x ≤ y) :
    Lt.Spec Try.prog 106 [.pointer (some ⟨gs, 0, none⟩), .int .i64 x, .int .i64 y] w (AtRs w0 gs rest (andV N x y)) := by
  have hR1 := hS.row (i := 1) rfl
  have RN := Own.row encN_ok hR1
  have hC0 := hS.cell (i := 0) rfl
  obtain ⟨hD0, _⟩ := cells_heap hC0
  by_cases hx : hasL N x
  · by_cases hy : hasL N y
    · have hx' : 0 ≤ x ∧ x < 2 * ((N.length : Int) + 1) := hx
      have hy' : 0 ≤ y ∧ y < 2 * ((N.length : Int) + 1) := hy
      obtain ⟨g1, g2, g3, g4⟩ := andV_comm_ways hx hy
      refine Spec.of _ Try.func106 rfl Try.ntmps106 (by kernel_rfl) rfl ?_
      repeat' (first
        | ((show WL _ _ _ (⟨_, .call ⟨.value (.func 104), _, _⟩, _, _, _, _⟩ :: _) _ _ _); apply WL.callS; exact rfl; exact rfl; exact rfl; exact rfl; exact rs_Has gs cap a N x _ hC0 (by omega))
        | ((show WL _ _ _ (⟨_, .call ⟨.value (.func 104), _, _⟩, _, _, _, _⟩ :: _) _ _ _); apply WL.callS; exact rfl; exact rfl; exact rfl; exact rfl; exact rs_Has gs cap a N y _ hC0 (by omega))
        | ((show WL _ _ _ (⟨_, .call ⟨.value (.func 105), _, _⟩, _, _, _, _⟩ :: _) _ _ _); apply WL.callS; exact rfl; exact rfl; exact rfl; exact rfl; exact rs_Not y _ (by omega))
        | (apply WL.gF; exact rfl; exact rfl; (focus (first | (rw [dec_true hx]; rfl) | (rw [dec_true hy]; rfl) | exact dec_false (by omega); done)))
        | (apply W.condKF; exact rfl; (focus (first | (rw [dec_true hx]; rfl) | (rw [dec_true hy]; rfl) | exact dec_false (by omega); done)))
        | (show WL _ _ _ _ _ _ _; first | apply WL.nil | (refine WL.au (k := ?_)) | (apply WL.guardF; exact rfl; exact rfl) | (apply WL.gD; exact rfl; exact rfl; all_goals intro _))
        | (show Z _ _ _ _ _; first | apply Z.then_normal | apply Z.then_ret)
        | (show W _ _ _ _ _ _; first | apply W.seq | apply W.region | apply W.block | apply W.skip | apply W.ret | (apply W.condT; exact rfl) | (apply W.condD; exact rfl; all_goals intro _)))
      all_goals first
        | (rw [g1 (by omega)]; exact Z.body1 Try.results106 rfl fun m => ⟨hX.at m, a, cap, rfl, hS.ext ((Ext.refl _).at m)⟩)
        | (rw [g2 (by omega) (by omega)]; exact Z.body1 Try.results106 rfl fun m => ⟨hX.at m, a, cap, rfl, hS.ext ((Ext.refl _).at m)⟩)
        | (rw [g3 (by omega) (by omega) (by omega)]; exact Z.body1 Try.results106 rfl fun m => ⟨hX.at m, a, cap, rfl, hS.ext ((Ext.refl _).at m)⟩)
        | skip
      have g5 := g4 (by omega) (by omega) (by omega) x y (by omega) (by omega)
      refine W.loop1 N.length (fun k => k ≤ N.length ∧ ∀ j : Nat, j < k → N[j]? ≠ some (x, y)) (fun k => [(0, .pointer (some ⟨gs, 0, none⟩)), (1, .int .i64 x), (2, .int .i64 y), (7, .int .i64 k)]) ⟨by omega, fun j h => by omega⟩ (fun k h => h.1) ⟨rfl, rfl, rfl, rfl, trivial⟩ ?_
      rintro k ⟨hk, hno⟩
      by_cases hlt : k < N.length
      · obtain ⟨z, hz⟩ := getI N hlt
        by_cases z1 : z.1 = x
        · by_cases z2 : z.2 = y
          · have hzp : z = (x, y) := Prod.ext z1 z2
            rw [g5.1 k (by rw [hz, hzp]) hno]
            repeat' (first
              | (apply WL.nilc; exact rfl; exact rfl; exact rfl)
              | (apply WL.gT; exact rfl; exact rfl; (focus (first | exact dec_true (by omega) | exact dec_true z1 | exact dec_true z2; done)))
              | (apply W.condKT; exact rfl; (focus (first | exact dec_true (by omega) | exact dec_true z1 | exact dec_true z2; done)))
              | (show WL _ _ _ _ _ _ _; first | apply WL.nil | (refine WL.au (k := ?_)) | (apply WL.index tOk; exact rfl; exact rfl; exact rfl; exact rfl; exact rfl; exact rfl; exact rfl; exact rfl; assumption; (exact extA); exact rfl; omega; assumption; intro b off h; have hcc := h; first | (obtain ⟨h1, h2, h3, h4, h5, h6, _⟩ := h) | (obtain ⟨h1, h2, h3, _⟩ := h) | (obtain ⟨h1, h2, _⟩ := h) | (obtain ⟨h1, _⟩ := h)))
              | (show Z _ _ _ _ _; first | apply Z.then_normal | apply Z.then_ret | apply Z.block_ret)
              | (show W _ _ _ _ _ _; first | apply W.seq | apply W.region | apply W.block | apply W.skip | apply W.ret))
            exact Z.body1 Try.results106 rfl fun m => ⟨hX.at m, a, cap, rfl, hS.ext ((Ext.refl _).at m)⟩
          · repeat' (first
              | (apply WL.nilc; exact rfl; exact rfl; exact rfl)
              | (apply WL.gT; exact rfl; exact rfl; (focus (first | exact dec_true (by omega) | exact dec_true z1 | exact dec_false z2; done)))
              | (apply W.condKT; exact rfl; (focus (first | exact dec_true (by omega) | exact dec_true z1 | exact dec_false z2; done)))
              | (apply W.condKF; exact rfl; (focus (first | exact dec_true (by omega) | exact dec_true z1 | exact dec_false z2; done)))
              | (show WL _ _ _ _ _ _ _; first | apply WL.nil | (refine WL.au (k := ?_)) | (apply WL.index tOk; exact rfl; exact rfl; exact rfl; exact rfl; exact rfl; exact rfl; exact rfl; exact rfl; assumption; (exact extA); exact rfl; omega; assumption; intro b off h; have hcc := h; first | (obtain ⟨h1, h2, h3, h4, h5, h6, _⟩ := h) | (obtain ⟨h1, h2, h3, _⟩ := h) | (obtain ⟨h1, h2, _⟩ := h) | (obtain ⟨h1, _⟩ := h)))
              | (show Z _ _ _ _ _; first | apply Z.then_normal | apply Z.block_normal)
              | (show W _ _ _ _ _ _; first | apply W.seq | apply W.region | apply W.block | apply W.skip))
            exact Z.again1 ⟨by omega, fun j hj hh => by
              by_cases hjk : j = k
              · subst hjk; rw [hz] at hh; cases hh; exact z2 rfl
              · exact hno j (by omega) hh⟩ ⟨rfl, rfl, rfl, rfl, trivial⟩
        · repeat' (first
            | (apply WL.nilc; exact rfl; exact rfl; exact rfl)
            | (apply WL.gF; exact rfl; exact rfl; (focus (first | exact dec_true (by omega) | exact dec_false z1; done)))
            | (apply W.condKT; exact rfl; (focus (first | exact dec_true (by omega) | exact dec_false z1; done)))
            | (show WL _ _ _ _ _ _ _; first | apply WL.nil | (refine WL.au (k := ?_)) | (apply WL.index tOk; exact rfl; exact rfl; exact rfl; exact rfl; exact rfl; exact rfl; exact rfl; exact rfl; assumption; (exact extA); exact rfl; omega; assumption; intro b off h; have hcc := h; first | (obtain ⟨h1, h2, h3, h4, h5, h6, _⟩ := h) | (obtain ⟨h1, h2, h3, _⟩ := h) | (obtain ⟨h1, h2, _⟩ := h) | (obtain ⟨h1, _⟩ := h)) | (apply WL.guardF; exact rfl; exact rfl))
            | (show Z _ _ _ _ _; first | apply Z.then_normal | apply Z.block_normal)
            | (show W _ _ _ _ _ _; first | apply W.seq | apply W.region | apply W.block | apply W.skip | (apply W.condF; exact rfl)))
          exact Z.again1 ⟨by omega, fun j hj hh => by
            by_cases hjk : j = k
            · subst hjk; rw [hz] at hh; cases hh; exact z1 rfl
            · exact hno j (by omega) hh⟩ ⟨rfl, rfl, rfl, rfl, trivial⟩
      · obtain rfl : k = N.length := by omega
        rw [g5.2 (fun j hh => by
          by_cases hj : j < N.length
          · exact hno j hj hh
          · rw [List.getElem?_eq_none (by omega)] at hh; cases hh)]
        repeat' (first
          | (apply WL.nilc; exact rfl; exact rfl; exact rfl)
          | (apply WL.build tOk; exact rfl; exact rfl; exact rfl; exact rfl; exact rfl; exact rfl; exact rfl; kernel_rfl)
          | (apply W.condKF; exact rfl; (focus (exact dec_false (by omega); done)))
          | (((show WL _ _ _ (⟨_, .call ⟨.value (.func 148), _, _⟩, _, _, _, _⟩ :: _) _ _ _); apply WL.call; exact rfl; exact rfl; exact rfl; exact rfl; exact rs_put gs cap a N (x, y) rest _ w0 hX hS hN; rintro v' w' ⟨hX2, a', cap', rfl, hS2⟩))
          | (show WL _ _ _ _ _ _ _; first | apply WL.nil | (refine WL.au (k := ?_)))
          | (show Z _ _ _ _ _; first | apply Z.then_normal | apply Z.then_exit | apply Z.block_exit)
          | (show W _ _ _ _ _ _; first | apply W.seq | apply W.region | apply W.ret | apply W.exit))
        exact Z.body1 Try.results106 rfl fun m => ⟨hX2.at m, a', cap', rfl, hS2.ext ((Ext.refl _).at m)⟩
    · rw [andV_no (fun h => hy h.2)]
      refine Spec.of _ Try.func106 rfl Try.ntmps106 (by kernel_rfl) rfl ?_
      repeat' (first
        | ((show WL _ _ _ (⟨_, .call ⟨.value (.func 104), _, _⟩, _, _, _, _⟩ :: _) _ _ _); apply WL.callS; exact rfl; exact rfl; exact rfl; exact rfl; exact rs_Has gs cap a N x _ hC0 (by omega))
        | ((show WL _ _ _ (⟨_, .call ⟨.value (.func 104), _, _⟩, _, _, _, _⟩ :: _) _ _ _); apply WL.callS; exact rfl; exact rfl; exact rfl; exact rfl; exact rs_Has gs cap a N y _ hC0 (by omega))
        | (apply WL.gF; exact rfl; exact rfl; (focus (first | (rw [dec_true hx]; rfl) | (rw [dec_false hy]; rfl); done)))
        | (apply W.condKT; exact rfl; (focus (first | (rw [dec_true hx]; rfl) | (rw [dec_false hy]; rfl); done)))
        | (show WL _ _ _ _ _ _ _; first | apply WL.nil | (refine WL.au (k := ?_)))
        | (show Z _ _ _ _ _; first | apply Z.then_normal | apply Z.then_ret)
        | (show W _ _ _ _ _ _; first | apply W.seq | apply W.region | apply W.ret))
      exact Z.body1 Try.results106 rfl fun m => ⟨hX.at m, a, cap, rfl, hS.ext ((Ext.refl _).at m)⟩
  · rw [andV_no (fun h => hx h.1)]
    refine Spec.of _ Try.func106 rfl Try.ntmps106 (by kernel_rfl) rfl ?_
    repeat' (first
      | ((show WL _ _ _ (⟨_, .call ⟨.value (.func 104), _, _⟩, _, _, _, _⟩ :: _) _ _ _); apply WL.callS; exact rfl; exact rfl; exact rfl; exact rfl; exact rs_Has gs cap a N x _ hC0 (by omega))
      | (apply WL.gT; exact rfl; exact rfl; (focus (first | (rw [dec_false hx]; rfl); done)))
      | (show WL _ _ _ _ _ _ _; first | apply WL.nil | (refine WL.au (k := ?_)) | (apply WL.guardF; exact rfl; exact rfl))
      | (show Z _ _ _ _ _; first | apply Z.then_normal | apply Z.then_ret)
      | (show W _ _ _ _ _ _; first | apply W.seq | apply W.region | apply W.ret | (apply W.condT; exact rfl)))
    exact Z.body1 Try.results106 rfl fun m => ⟨hX.at m, a, cap, rfl, hS.ext ((Ext.refl _).at m)⟩

set_option maxHeartbeats 8000000 in
theorem rs_AndGt (gs cap : Nat) (a : Option Addr) (N : List (Int × Int)) (x y : Int) (rest : List Piece) (w w0 : World) (hX : Ext w0 w) (hS : Sep w0.heap.size w (rsN w0.heap.size gs a cap N ++ rest)) (hN : N.length < 1048576) (hxy : y < x) :
    Lt.Spec Try.prog 106 [.pointer (some ⟨gs, 0, none⟩), .int .i64 x, .int .i64 y] w (AtRs w0 gs rest (andV N x y)) := by
  have hR1 := hS.row (i := 1) rfl
  have RN := Own.row encN_ok hR1
  have hC0 := hS.cell (i := 0) rfl
  obtain ⟨hD0, _⟩ := cells_heap hC0
  by_cases hx : hasL N x
  · by_cases hy : hasL N y
    · have hx' : 0 ≤ x ∧ x < 2 * ((N.length : Int) + 1) := hx
      have hy' : 0 ≤ y ∧ y < 2 * ((N.length : Int) + 1) := hy
      obtain ⟨g1, g2, g3, g4⟩ := andV_comm_ways hx hy
      refine Spec.of _ Try.func106 rfl Try.ntmps106 (by kernel_rfl) rfl ?_
      repeat' (first
        | ((show WL _ _ _ (⟨_, .call ⟨.value (.func 104), _, _⟩, _, _, _, _⟩ :: _) _ _ _); apply WL.callS; exact rfl; exact rfl; exact rfl; exact rfl; exact rs_Has gs cap a N x _ hC0 (by omega))
        | ((show WL _ _ _ (⟨_, .call ⟨.value (.func 104), _, _⟩, _, _, _, _⟩ :: _) _ _ _); apply WL.callS; exact rfl; exact rfl; exact rfl; exact rfl; exact rs_Has gs cap a N y _ hC0 (by omega))
        | ((show WL _ _ _ (⟨_, .call ⟨.value (.func 105), _, _⟩, _, _, _, _⟩ :: _) _ _ _); apply WL.callS; exact rfl; exact rfl; exact rfl; exact rfl; exact rs_Not y _ (by omega))
        | (apply WL.gF; exact rfl; exact rfl; (focus (first | (rw [dec_true hx]; rfl) | (rw [dec_true hy]; rfl) | exact dec_true (by omega); done)))
        | (apply W.condKT; exact rfl; (focus (first | (rw [dec_true hx]; rfl) | (rw [dec_true hy]; rfl) | exact dec_true (by omega); done)))
        | (apply W.condKF; exact rfl; (focus (first | (rw [dec_true hx]; rfl) | (rw [dec_true hy]; rfl) | exact dec_true (by omega); done)))
        | (show WL _ _ _ _ _ _ _; first | apply WL.nil | (refine WL.au (k := ?_)) | (apply WL.guardF; exact rfl; exact rfl) | (apply WL.gD; exact rfl; exact rfl; all_goals intro _))
        | (show Z _ _ _ _ _; first | apply Z.then_normal | apply Z.then_ret)
        | (show W _ _ _ _ _ _; first | apply W.seq | apply W.region | apply W.block | apply W.skip | apply W.ret | (apply W.condT; exact rfl) | (apply W.condD; exact rfl; all_goals intro _)))
      all_goals first
        | (rw [g1 (by omega)]; exact Z.body1 Try.results106 rfl fun m => ⟨hX.at m, a, cap, rfl, hS.ext ((Ext.refl _).at m)⟩)
        | (rw [g2 (by omega) (by omega)]; exact Z.body1 Try.results106 rfl fun m => ⟨hX.at m, a, cap, rfl, hS.ext ((Ext.refl _).at m)⟩)
        | (rw [g3 (by omega) (by omega) (by omega)]; exact Z.body1 Try.results106 rfl fun m => ⟨hX.at m, a, cap, rfl, hS.ext ((Ext.refl _).at m)⟩)
        | skip
      have g5 := g4 (by omega) (by omega) (by omega) y x (by omega) (by omega)
      refine W.loop1 N.length (fun k => k ≤ N.length ∧ ∀ j : Nat, j < k → N[j]? ≠ some (y, x)) (fun k => [(0, .pointer (some ⟨gs, 0, none⟩)), (1, .int .i64 y), (2, .int .i64 x), (7, .int .i64 k)]) ⟨by omega, fun j h => by omega⟩ (fun k h => h.1) ⟨rfl, rfl, rfl, rfl, trivial⟩ ?_
      rintro k ⟨hk, hno⟩
      by_cases hlt : k < N.length
      · obtain ⟨z, hz⟩ := getI N hlt
        by_cases z1 : z.1 = y
        · by_cases z2 : z.2 = x
          · have hzp : z = (y, x) := Prod.ext z1 z2
            rw [g5.1 k (by rw [hz, hzp]) hno]
            repeat' (first
              | (apply WL.nilc; exact rfl; exact rfl; exact rfl)
              | (apply WL.gT; exact rfl; exact rfl; (focus (first | exact dec_true (by omega) | exact dec_true z1 | exact dec_true z2; done)))
              | (apply W.condKT; exact rfl; (focus (first | exact dec_true (by omega) | exact dec_true z1 | exact dec_true z2; done)))
              | (show WL _ _ _ _ _ _ _; first | apply WL.nil | (refine WL.au (k := ?_)) | (apply WL.index tOk; exact rfl; exact rfl; exact rfl; exact rfl; exact rfl; exact rfl; exact rfl; exact rfl; assumption; (exact extA); exact rfl; omega; assumption; intro b off h; have hcc := h; first | (obtain ⟨h1, h2, h3, h4, h5, h6, _⟩ := h) | (obtain ⟨h1, h2, h3, _⟩ := h) | (obtain ⟨h1, h2, _⟩ := h) | (obtain ⟨h1, _⟩ := h)))
              | (show Z _ _ _ _ _; first | apply Z.then_normal | apply Z.then_ret | apply Z.block_ret)
              | (show W _ _ _ _ _ _; first | apply W.seq | apply W.region | apply W.block | apply W.skip | apply W.ret))
            exact Z.body1 Try.results106 rfl fun m => ⟨hX.at m, a, cap, rfl, hS.ext ((Ext.refl _).at m)⟩
          · repeat' (first
              | (apply WL.nilc; exact rfl; exact rfl; exact rfl)
              | (apply WL.gT; exact rfl; exact rfl; (focus (first | exact dec_true (by omega) | exact dec_true z1 | exact dec_false z2; done)))
              | (apply W.condKT; exact rfl; (focus (first | exact dec_true (by omega) | exact dec_true z1 | exact dec_false z2; done)))
              | (apply W.condKF; exact rfl; (focus (first | exact dec_true (by omega) | exact dec_true z1 | exact dec_false z2; done)))
              | (show WL _ _ _ _ _ _ _; first | apply WL.nil | (refine WL.au (k := ?_)) | (apply WL.index tOk; exact rfl; exact rfl; exact rfl; exact rfl; exact rfl; exact rfl; exact rfl; exact rfl; assumption; (exact extA); exact rfl; omega; assumption; intro b off h; have hcc := h; first | (obtain ⟨h1, h2, h3, h4, h5, h6, _⟩ := h) | (obtain ⟨h1, h2, h3, _⟩ := h) | (obtain ⟨h1, h2, _⟩ := h) | (obtain ⟨h1, _⟩ := h)))
              | (show Z _ _ _ _ _; first | apply Z.then_normal | apply Z.block_normal)
              | (show W _ _ _ _ _ _; first | apply W.seq | apply W.region | apply W.block | apply W.skip))
            exact Z.again1 ⟨by omega, fun j hj hh => by
              by_cases hjk : j = k
              · subst hjk; rw [hz] at hh; cases hh; exact z2 rfl
              · exact hno j (by omega) hh⟩ ⟨rfl, rfl, rfl, rfl, trivial⟩
        · repeat' (first
            | (apply WL.nilc; exact rfl; exact rfl; exact rfl)
            | (apply WL.gF; exact rfl; exact rfl; (focus (first | exact dec_true (by omega) | exact dec_false z1; done)))
            | (apply W.condKT; exact rfl; (focus (first | exact dec_true (by omega) | exact dec_false z1; done)))
            | (show WL _ _ _ _ _ _ _; first | apply WL.nil | (refine WL.au (k := ?_)) | (apply WL.index tOk; exact rfl; exact rfl; exact rfl; exact rfl; exact rfl; exact rfl; exact rfl; exact rfl; assumption; (exact extA); exact rfl; omega; assumption; intro b off h; have hcc := h; first | (obtain ⟨h1, h2, h3, h4, h5, h6, _⟩ := h) | (obtain ⟨h1, h2, h3, _⟩ := h) | (obtain ⟨h1, h2, _⟩ := h) | (obtain ⟨h1, _⟩ := h)) | (apply WL.guardF; exact rfl; exact rfl))
            | (show Z _ _ _ _ _; first | apply Z.then_normal | apply Z.block_normal)
            | (show W _ _ _ _ _ _; first | apply W.seq | apply W.region | apply W.block | apply W.skip | (apply W.condF; exact rfl)))
          exact Z.again1 ⟨by omega, fun j hj hh => by
            by_cases hjk : j = k
            · subst hjk; rw [hz] at hh; cases hh; exact z1 rfl
            · exact hno j (by omega) hh⟩ ⟨rfl, rfl, rfl, rfl, trivial⟩
      · obtain rfl : k = N.length := by omega
        rw [g5.2 (fun j hh => by
          by_cases hj : j < N.length
          · exact hno j hj hh
          · rw [List.getElem?_eq_none (by omega)] at hh; cases hh)]
        repeat' (first
          | (apply WL.nilc; exact rfl; exact rfl; exact rfl)
          | (apply WL.build tOk; exact rfl; exact rfl; exact rfl; exact rfl; exact rfl; exact rfl; exact rfl; kernel_rfl)
          | (apply W.condKF; exact rfl; (focus (exact dec_false (by omega); done)))
          | (((show WL _ _ _ (⟨_, .call ⟨.value (.func 148), _, _⟩, _, _, _, _⟩ :: _) _ _ _); apply WL.call; exact rfl; exact rfl; exact rfl; exact rfl; exact rs_put gs cap a N (y, x) rest _ w0 hX hS hN; rintro v' w' ⟨hX2, a', cap', rfl, hS2⟩))
          | (show WL _ _ _ _ _ _ _; first | apply WL.nil | (refine WL.au (k := ?_)))
          | (show Z _ _ _ _ _; first | apply Z.then_normal | apply Z.then_exit | apply Z.block_exit)
          | (show W _ _ _ _ _ _; first | apply W.seq | apply W.region | apply W.ret | apply W.exit))
        exact Z.body1 Try.results106 rfl fun m => ⟨hX2.at m, a', cap', rfl, hS2.ext ((Ext.refl _).at m)⟩
    · rw [andV_no (fun h => hy h.2)]
      refine Spec.of _ Try.func106 rfl Try.ntmps106 (by kernel_rfl) rfl ?_
      repeat' (first
        | ((show WL _ _ _ (⟨_, .call ⟨.value (.func 104), _, _⟩, _, _, _, _⟩ :: _) _ _ _); apply WL.callS; exact rfl; exact rfl; exact rfl; exact rfl; exact rs_Has gs cap a N x _ hC0 (by omega))
        | ((show WL _ _ _ (⟨_, .call ⟨.value (.func 104), _, _⟩, _, _, _, _⟩ :: _) _ _ _); apply WL.callS; exact rfl; exact rfl; exact rfl; exact rfl; exact rs_Has gs cap a N y _ hC0 (by omega))
        | (apply WL.gF; exact rfl; exact rfl; (focus (first | (rw [dec_true hx]; rfl) | (rw [dec_false hy]; rfl); done)))
        | (apply W.condKT; exact rfl; (focus (first | (rw [dec_true hx]; rfl) | (rw [dec_false hy]; rfl); done)))
        | (show WL _ _ _ _ _ _ _; first | apply WL.nil | (refine WL.au (k := ?_)))
        | (show Z _ _ _ _ _; first | apply Z.then_normal | apply Z.then_ret)
        | (show W _ _ _ _ _ _; first | apply W.seq | apply W.region | apply W.ret))
      exact Z.body1 Try.results106 rfl fun m => ⟨hX.at m, a, cap, rfl, hS.ext ((Ext.refl _).at m)⟩
  · rw [andV_no (fun h => hx h.1)]
    refine Spec.of _ Try.func106 rfl Try.ntmps106 (by kernel_rfl) rfl ?_
    repeat' (first
      | ((show WL _ _ _ (⟨_, .call ⟨.value (.func 104), _, _⟩, _, _, _, _⟩ :: _) _ _ _); apply WL.callS; exact rfl; exact rfl; exact rfl; exact rfl; exact rs_Has gs cap a N x _ hC0 (by omega))
      | (apply WL.gT; exact rfl; exact rfl; (focus (first | (rw [dec_false hx]; rfl); done)))
      | (show WL _ _ _ _ _ _ _; first | apply WL.nil | (refine WL.au (k := ?_)) | (apply WL.guardF; exact rfl; exact rfl))
      | (show Z _ _ _ _ _; first | apply Z.then_normal | apply Z.then_ret)
      | (show W _ _ _ _ _ _; first | apply W.seq | apply W.region | apply W.ret | (apply W.condT; exact rfl)))
    exact Z.body1 Try.results106 rfl fun m => ⟨hX.at m, a, cap, rfl, hS.ext ((Ext.refl _).at m)⟩

theorem rs_And (gs cap : Nat) (a : Option Addr) (N : List (Int × Int)) (x y : Int) (rest : List Piece) (w w0 : World) (hX : Ext w0 w) (hS : Sep w0.heap.size w (rsN w0.heap.size gs a cap N ++ rest)) (hN : N.length < 1048576) :
    Lt.Spec Try.prog 106 [.pointer (some ⟨gs, 0, none⟩), .int .i64 x, .int .i64 y] w (AtRs w0 gs rest (andV N x y)) := by
  by_cases hxy : x ≤ y
  · exact rs_AndLe gs cap a N x y rest w w0 hX hS hN hxy
  · exact rs_AndGt gs cap a N x y rest w w0 hX hS hN (by omega)
end Go.Proofs.Ythpnahapiodflaa
namespace Go.Proofs.Ythpnahapiodflaa
open Go Go.Lt Go.RowKit
set_option linter.unusedVariables false
set_option linter.unusedSimpArgs false
set_option maxRecDepth 20000

def bestR (N : List (Int × Int)) (L : List Int) (b : Int) : Nat → Int
  | 0 => -1
  | m + 1 => if (m : Int) ≠ b ∧ (bestR N L b m < 0 ∨ lvL N (L.getD m 0) < lvL N (L.getD (bestR N L b m).toNat 0)) then m else bestR N L b m
theorem bestR_lt (N : List (Int × Int)) (L : List Int) (b : Int) : ∀ m, -1 ≤ bestR N L b m ∧ bestR N L b m < m
  | 0 => ⟨Int.le_refl _, by show (-1 : Int) < ((0 : Nat) : Int); decide⟩
  | m + 1 => by
    have := bestR_lt N L b m
    rw [bestR]; split <;> omega
theorem bestR_none (N : List (Int × Int)) (L : List Int) : ∀ m, bestR N L (-1) m = if m = 0 then (-1 : Int) else ((fstTo N L m : Nat) : Int)
  | 0 => rfl
  | m + 1 => by
    rw [bestR, bestR_none N L m, if_neg (show ¬ m + 1 = 0 by omega)]
    by_cases h0 : m = 0
    · subst h0
      rw [if_pos rfl, if_pos ⟨by omega, .inl (by decide)⟩]
      show ((0 : Nat) : Int) = ((fstTo N L (0 + 1) : Nat) : Int)
      rw [fstTo, if_neg (by show ¬ lvL N (L.getD 0 0) < lvL N (L.getD 0 0); omega)]; rfl
    · rw [if_neg h0, fstTo, Int.toNat_natCast]
      by_cases h1 : lvL N (L.getD m 0) < lvL N (L.getD (fstTo N L m) 0)
      · rw [if_pos ⟨by omega, .inr h1⟩, if_pos h1]
      · rw [if_neg (fun h => by rcases h.2 with h | h; omega; exact h1 h), if_neg h1]
def seenI (i m : Nat) : Nat := if m ≤ i then m else m - 1
def upI (i j : Nat) : Nat := if j < i then j else j + 1
theorem erase_up {L : List Int} {i : Nat} (j : Nat) : (L.eraseIdx i).getD j 0 = L.getD (upI i j) 0 := by
  unfold upI
  rw [List.getD, List.getElem?_eraseIdx]
  split <;> rfl
theorem bestR_but {N : List (Int × Int)} {L : List Int} {i : Nat} : ∀ m, bestR N L (i : Int) m = if seenI i m = 0 then (-1 : Int) else ((upI i (fstTo N (L.eraseIdx i) (seenI i m)) : Nat) : Int)
  | 0 => by
    show (-1 : Int) = _
    rw [if_pos (show seenI i 0 = 0 by unfold seenI; rw [if_pos (Nat.zero_le _)])]
  | m + 1 => by
    rw [bestR, bestR_but m]
    by_cases hmi : m = i
    · subst hmi
      rw [if_neg (fun h => h.1 rfl), show seenI m (m + 1) = seenI m m by unfold seenI; rw [if_neg (by omega), if_pos (Nat.le_refl _)]; omega]
    · have hs : seenI i (m + 1) = seenI i m + 1 := by unfold seenI; split <;> split <;> omega
      have hu : upI i (seenI i m) = m := by unfold upI seenI; split <;> split <;> omega
      have hne : ((m : Nat) : Int) ≠ (i : Int) := by omega
      rw [hs, if_neg (show ¬ seenI i m + 1 = 0 by omega), fstTo, erase_up, erase_up, hu]
      by_cases h0 : seenI i m = 0
      · rw [if_pos h0, if_pos ⟨hne, .inl (by decide)⟩]
        have hf : fstTo N (L.eraseIdx i) (seenI i m) = seenI i m := by rw [h0]; rfl
        rw [hf, hu]; split <;> first | rfl | rw [hu]
      · rw [if_neg h0, Int.toNat_natCast]
        by_cases h1 : lvL N (L.getD m 0) < lvL N (L.getD (upI i (fstTo N (L.eraseIdx i) (seenI i m))) 0)
        · rw [if_pos ⟨hne, .inr h1⟩, if_pos h1, hu]
        · rw [if_neg (fun h => by rcases h.2 with h | h; omega; exact h1 h), if_neg h1]
set_option maxHeartbeats 8000000 in
theorem ref48_least (gs cap lp : Nat) (a ll : Option Addr) (N : List (Int × Int)) (L : List Int) (b : Int) (w : World) (hC : w.heap[gs]? = some (.cells #[.slice a N.length cap] 58 (0, 0))) (RN : Row 2 encN w a N) (RL : Row 1 encI w ll L) (hg : GoodNet N) (hN : N.length ≤ 1000000) (hL : ∀ z ∈ L, hasL N z) (hll : L.length ≤ 1000000) (hb : -1 ≤ b ∧ b ≤ 1000000) :
    Lt.Spec Try.prog 149 [.pointer (some ⟨gs, 0, none⟩), .slice ll L.length lp, .int .i64 b] w (fun v w' => v = .int .i64 (bestR N L b L.length) ∧ Ext w w') := by
  have hvl := levels_len N
  obtain ⟨n0, _⟩ := cells_heap hC
  refine Spec.of _ Try.func149 rfl Try.ntmps149 (by kernel_rfl) rfl ?_
  repeat' (first
    | (apply WL.nilc; exact rfl; exact rfl; exact rfl)
    | ((show WL _ _ _ (⟨_, .call ⟨.value (.func 108), _, _⟩, _, _, _, _⟩ :: _) _ _ _); apply WL.call; exact rfl; exact rfl; exact rfl; exact rfl; exact ref07_Levels a cap N _ (RN.ext (by (exact extA))) hg (by omega); rintro v' w' ⟨hx, a', cap', rfl, hO⟩; (obtain ⟨aV, rfl⟩ : ∃ x, x = a' := ⟨_, rfl⟩; obtain ⟨cV, rfl⟩ : ∃ x, x = cap' := ⟨_, rfl⟩; obtain ⟨hOV, rfl⟩ : ∃ x, x = hO := ⟨_, rfl⟩; obtain ⟨hxV, rfl⟩ : ∃ x, x = hx := ⟨_, rfl⟩; obtain ⟨w2, rfl⟩ : ∃ x, x = w' := ⟨_, rfl⟩))
    | (show WL _ _ _ _ _ _ _; first | apply WL.nil | (refine WL.au (k := ?_)))
    | (show Z _ _ _ _ _; apply Z.then_normal)
    | (show W _ _ _ _ _ _; first | apply W.seq | apply W.region | apply W.block)
    | fail)
  have RV := hOV.row encI_ok
  have hX2 : Ext w w2 := (by (exact extA))
  have RL2 := RL.ext hX2
  clear RL RN n0
  refine W.loop1 L.length (fun m => m ≤ L.length) (fun m => [(1, .slice ll L.length lp), (2, .int .i64 b), (7, .slice aV (levels N).length cV), (8, .int .i64 (bestR N L b m)), (9, .int .i64 m)]) (Nat.zero_le _) (fun k h => h) ⟨rfl, rfl, rfl, rfl, rfl, trivial⟩ ?_
  rintro m hm
  have hbl := bestR_lt N L b m
  by_cases hlt : m < L.length
  rotate_left
  · obtain rfl : m = L.length := by omega
    repeat' (first
      | (show WL _ _ _ _ _ _ _; first | apply WL.nil | (refine WL.au (k := ?_)))
      | (show Z _ _ _ _ _; apply Z.then_normal)
      | (show W _ _ _ _ _ _; first | apply W.seq | apply W.region)
      | fail)
    refine W.condKF rfl (dec_false (by omega)) ?_
    repeat' (first
      | (show WL _ _ _ _ _ _ _; first | apply WL.nil | (refine WL.au (k := ?_)))
      | (show Z _ _ _ _ _; first | apply Z.then_normal | apply Z.then_exit | apply Z.block_exit)
      | (show W _ _ _ _ _ _; first | apply W.seq | apply W.region | apply W.ret | apply W.exit)
      | fail)
    exact Z.body1 Try.results149 rfl fun q => ⟨rfl, hX2.at q⟩
  obtain ⟨x, hx⟩ := getI L hlt
  have hst : bestR N L b (m + 1) = if (m : Int) ≠ b ∧ (bestR N L b m < 0 ∨ lvL N x < lvL N (L.getD (bestR N L b m).toNat 0)) then (m : Int) else bestR N L b m := by rw [bestR, getD_of hx]
  obtain ⟨bt, hbt⟩ : ∃ bt, bestR N L b m = bt := ⟨_, rfl⟩
  rw [hbt] at hst hbl ⊢
  repeat' (first
    | (show WL _ _ _ _ _ _ _; first | apply WL.nil | (refine WL.au (k := ?_)))
    | (show Z _ _ _ _ _; apply Z.then_normal)
    | (show W _ _ _ _ _ _; first | apply W.seq | apply W.region)
    | fail)
  refine W.condKT rfl (dec_true (by omega)) ?_
  by_cases h1 : (m : Int) = b
  · rw [if_neg (fun h => h.1 h1)] at hst
    have k1 : dec ((m : Int) ≠ b) = false := dec_false (fun h => h h1)
    repeat' (first
      | (apply QL.gF; exact rfl; exact rfl; (focus (first | exact k1; done)))
      | (show WL _ _ _ _ _ _ _; first | apply WL.nil | (refine WL.au (k := ?_)))
      | (show QL _ _ _ _ _ _ _; first | apply QL.nil | (refine QL.au (k := ?_)) | (apply QL.guardF; exact rfl; exact rfl))
      | (show Z _ _ _ _ _; first | apply Z.then_normal | apply Z.block_normal)
      | (show W _ _ _ _ _ _; first | apply W.seq | apply W.region | apply W.block | apply W.skip | (apply W.condF; exact rfl) | (apply W.regionD tMix; kernel_rfl))
      | fail)
    exact Z.again1 (by omega) (by rw [hst]; exact ⟨rfl, rfl, rfl, rfl, rfl, trivial⟩)
  have k1 : dec ((m : Int) ≠ b) = true := dec_true h1
  by_cases h2 : bt < 0
  · rw [if_pos ⟨h1, .inl h2⟩] at hst
    have k2 : dec (bt < 0) = true := dec_true h2
    repeat' (first
      | (apply QL.gT; exact rfl; exact rfl; (focus (first | exact k1 | exact k2; done)))
      | (show WL _ _ _ _ _ _ _; first | apply WL.nil | (refine WL.au (k := ?_)))
      | (show QL _ _ _ _ _ _ _; first | apply QL.nil | (refine QL.au (k := ?_)) | (apply QL.guardF; exact rfl; exact rfl))
      | (show Z _ _ _ _ _; first | apply Z.then_normal | apply Z.block_normal)
      | (show W _ _ _ _ _ _; first | apply W.seq | apply W.region | apply W.block | apply W.skip | (apply W.condT; exact rfl) | (apply W.regionD tMix; kernel_rfl))
      | fail)
    exact Z.again1 (by omega) (by rw [hst]; exact ⟨rfl, rfl, rfl, rfl, rfl, trivial⟩)
  have k2 : dec (bt < 0) = false := dec_false h2
  obtain ⟨y, hy⟩ := getI L (show bt.toNat < L.length by omega)
  rw [getD_of hy] at hst
  have hxh := hL x (List.mem_of_getElem? hx)
  have hyh := hL y (List.mem_of_getElem? hy)
  unfold hasL at hxh hyh
  obtain ⟨zx, hzx⟩ := getI (levels N) (show (x / 2).toNat < _ by omega)
  obtain ⟨zy, hzy⟩ := getI (levels N) (show (y / 2).toNat < _ by omega)
  rw [show lvL N x = zx from getD_of hzx, show lvL N y = zy from getD_of hzy] at hst
  by_cases h3 : zx < zy
  · rw [if_pos ⟨h1, .inr h3⟩] at hst
    have k3 : dec (zx < zy) = true := dec_true h3
    repeat' (first
      | (apply QL.gT; exact rfl; exact rfl; (focus (first | exact k1 | exact k2 | exact k3; done)))
      | (apply QL.gF; exact rfl; exact rfl; (focus (first | exact k1 | exact k2 | exact k3; done)))
      | (apply W.condKT; exact rfl; (focus (first | exact k1 | exact k2 | exact k3; done)))
      | (show WL _ _ _ _ _ _ _; first | apply WL.nil | (refine WL.au (k := ?_)))
      | (show QL _ _ _ _ _ _ _; first | apply QL.nil | (refine QL.au (k := ?_)) | (apply QL.index tOk; exact rfl; exact rfl; exact rfl; exact rfl; exact rfl; exact rfl; exact rfl; exact rfl; assumption; (exact extA); exact rfl; omega; assumption; intro b off h; have hcc := h; first | (obtain ⟨h1, h2, h3, h4, h5, h6, _⟩ := h) | (obtain ⟨h1, h2, h3, _⟩ := h) | (obtain ⟨h1, h2, _⟩ := h) | (obtain ⟨h1, _⟩ := h)))
      | (show Z _ _ _ _ _; first | apply Z.then_normal | apply Z.block_normal)
      | (show W _ _ _ _ _ _; first | apply W.seq | apply W.region | apply W.block | apply W.skip | (apply W.regionD tMix; kernel_rfl))
      | fail)
    exact Z.again1 (by omega) (by rw [hst]; exact ⟨rfl, rfl, rfl, rfl, rfl, trivial⟩)
  · rw [if_neg (fun h => by rcases h.2 with h | h; exact h2 h; exact h3 h)] at hst
    have k3 : dec (zx < zy) = false := dec_false h3
    repeat' (first
      | (apply QL.gT; exact rfl; exact rfl; (focus (first | exact k1 | exact k2 | exact k3; done)))
      | (apply QL.gF; exact rfl; exact rfl; (focus (first | exact k1 | exact k2 | exact k3; done)))
      | (apply W.condKF; exact rfl; (focus (first | exact k1 | exact k2 | exact k3; done)))
      | (show WL _ _ _ _ _ _ _; first | apply WL.nil | (refine WL.au (k := ?_)))
      | (show QL _ _ _ _ _ _ _; first | apply QL.nil | (refine QL.au (k := ?_)) | (apply QL.index tOk; exact rfl; exact rfl; exact rfl; exact rfl; exact rfl; exact rfl; exact rfl; exact rfl; assumption; (exact extA); exact rfl; omega; assumption; intro b off h; have hcc := h; first | (obtain ⟨h1, h2, h3, h4, h5, h6, _⟩ := h) | (obtain ⟨h1, h2, h3, _⟩ := h) | (obtain ⟨h1, h2, _⟩ := h) | (obtain ⟨h1, _⟩ := h)))
      | (show Z _ _ _ _ _; first | apply Z.then_normal | apply Z.block_normal)
      | (show W _ _ _ _ _ _; first | apply W.seq | apply W.region | apply W.block | apply W.skip | (apply W.regionD tMix; kernel_rfl))
      | fail)
    exact Z.again1 (by omega) (by rw [hst]; exact ⟨rfl, rfl, rfl, rfl, rfl, trivial⟩)
end Go.Proofs.Ythpnahapiodflaa
namespace Go.Proofs.Ythpnahapiodflaa
open Go Go.Lt Go.RowKit
set_option linter.unusedVariables false
set_option linter.unusedSimpArgs false
set_option maxRecDepth 20000

noncomputable def restF (L : List Int) (i k : Nat) : Nat → List Int
  | 0 => []
  | m + 1 => if m ≠ i ∧ m ≠ k then restF L i k m ++ [L.getD m 0] else restF L i k m
theorem restF_comm (L : List Int) (i k : Nat) : ∀ m, restF L i k m = restF L k i m
  | 0 => rfl
  | m + 1 => by
    rw [restF, restF, restF_comm L i k m]
    by_cases h : m ≠ i ∧ m ≠ k
    · rw [if_pos h, if_pos ⟨h.2, h.1⟩]
    · rw [if_neg h, if_neg (fun h2 => h ⟨h2.2, h2.1⟩)]
theorem erase_out {α : Type} {l : List α} {j : Nat} (h : l.length ≤ j) : l.eraseIdx j = l := List.eraseIdx_of_length_le h
theorem restF_erase {L : List Int} {i j : Nat} (hi : i < L.length) : ∀ m, m ≤ L.length → restF L i (upI i j) m = ((L.eraseIdx i).take (seenI i m)).eraseIdx j
  | 0, _ => by
    have : seenI i 0 = 0 := by unfold seenI; rw [if_pos (Nat.zero_le _)]
    rw [this]; rfl
  | m + 1, hm => by
    have ih := restF_erase (j := j) hi m (by omega)
    have hel : (L.eraseIdx i).length = L.length - 1 := List.length_eraseIdx_of_lt hi
    rw [restF, ih]
    by_cases hmi : m = i
    · rw [if_neg (fun h => h.1 hmi), show seenI i (m + 1) = seenI i m by unfold seenI; rw [hmi, if_neg (by omega), if_pos (Nat.le_refl _)]; omega]
    · have hs : seenI i (m + 1) = seenI i m + 1 := by unfold seenI; split <;> split <;> omega
      have hu : upI i (seenI i m) = m := by unfold upI seenI; split <;> split <;> omega
      have hsl : seenI i m < (L.eraseIdx i).length := by rw [hel]; unfold seenI; split <;> omega
      obtain ⟨z, hz⟩ := getI (L.eraseIdx i) hsl
      have hzL : L.getD m 0 = z := by rw [← hu, ← erase_up, getD_of hz]
      rw [hs, take_succ' hz, hzL]
      have htl : ((L.eraseIdx i).take (seenI i m)).length = seenI i m := by rw [List.length_take]; omega
      by_cases hk : m = upI i j
      · have hsj : seenI i m = j := by rw [hk]; unfold seenI upI; split <;> split <;> omega
        rw [if_neg (fun h => h.2 hk), erase_out (l := (L.eraseIdx i).take (seenI i m)) (by omega)]
        rw [List.eraseIdx_append_of_length_le (by omega), htl, hsj, Nat.sub_self]
        simp
      · have hsj : seenI i m ≠ j := fun h => hk (by rw [← h, hu])
        rw [if_pos ⟨hmi, hk⟩]
        by_cases hlt : j < seenI i m
        · rw [List.eraseIdx_append_of_lt_length (by omega)]
        · rw [erase_out (l := (L.eraseIdx i).take (seenI i m)) (by omega), erase_out (l := (L.eraseIdx i).take (seenI i m) ++ [z]) (by rw [List.length_append, htl]; show seenI i m + 1 ≤ j; omega)]
theorem restF_all {N : List (Int × Int)} {L : List Int} (h : 2 ≤ L.length) : restF L (fstP N L) (upI (fstP N L) (fstP N (L.eraseIdx (fstP N L)))) L.length = mrgR N L := by
  have h1 := fstP_lt (N := N) (L := L) (by omega)
  have hel : (L.eraseIdx (fstP N L)).length = L.length - 1 := List.length_eraseIdx_of_lt h1
  rw [restF_erase h1 L.length (Nat.le_refl _), show seenI (fstP N L) L.length = L.length - 1 by unfold seenI; rw [if_neg (by omega)], List.take_of_length_le (by omega)]
  rfl
section
variable {n : List (Int × Int)} {outs : List Int} {na oa : Option Addr} {nc oc gs gB : Nat}
/-- All that is known of the reference's state. -/
noncomputable abbrev rbP (n : List (Int × Int)) (outs : List Int) (na oa : Option Addr) (nc oc gs gB : Nat) (B : Nat) (a : Option Addr) (cap : Nat) (ow : Option Addr) (wc : Nat) (s : BSt) : List Piece :=
  [pcell gs #[.slice a s.N.length cap] 58, prow 2 encN 104 B a cap s.N, pcell gB #[.slice na n.length nc, .slice oa outs.length oc, .pointer (some ⟨gs, 0, none⟩), .slice ow s.O.length wc] 124, prow 1 encI 3 B ow wc s.O]
def RBAt (n : List (Int × Int)) (outs : List Int) (na oa : Option Addr) (nc oc gs gB : Nat) (w0 : World) (s : BSt) (rest : List Piece) (w : World) : Prop :=
  Ext w0 w ∧ ∃ a cap ow wc, Lt.Sep w0.heap.size w (rbP n outs na oa nc oc gs gB w0.heap.size a cap ow wc s ++ rest)
theorem negB_odd {x l : Int} (hx : 0 ≤ x) (h : l % 2 = 1) : notL x = negB x l := by unfold negB; rw [if_pos h, notL_xor1 hx]
theorem negB_even {x l : Int} (h : ¬ l % 2 = 1) : x = negB x l := by unfold negB; rw [if_neg h]
set_option maxHeartbeats 4000000 in
theorem ref48_putOld (hn : n.length ≤ 100) (w0 : World) (s : BSt) (l : Int) (rest : List Piece) (w : World) (hs : BOk n s) (h0 : 0 ≤ l) (hln : l / 2 ≤ n.length) (hv1 : 0 ≤ ownO s.O l) (hA : RBAt n outs na oa nc oc gs gB w0 s rest w) :
    Lt.Spec Try.prog 109 [.pointer (some ⟨gB, 0, none⟩), .int .i64 l] w (fun v w' => v = .int .i64 (negB (ownO s.O l) l) ∧ RBAt n outs na oa nc oc gs gB w0 s rest w') := by
  have hx9 := hs.own hn hv1
  have hol := hs.len
  obtain ⟨x, hx⟩ := getI s.O (show (l / 2).toNat < s.O.length by omega)
  have hxe : ownO s.O l = x := getD_of hx
  rw [hxe] at hx9 hv1 ⊢
  obtain ⟨hX, a, cap, ow, wc, hS⟩ := hA
  obtain ⟨n0, n1, n2, n3, _⟩ := cells_heap (hS.cell (i := 2) rfl)
  have RO := (hS.row (i := 3) rfl).row encI_ok
  refine Spec.of _ Try.func109 rfl Try.ntmps109 (by kernel_rfl) rfl ?_
  repeat' (first
    | (apply WL.nilc; exact rfl; exact rfl; exact rfl)
    | (show WL _ _ _ _ _ _ _; first | apply WL.nil | (refine WL.au (k := ?_)) | (apply WL.index tOk; exact rfl; exact rfl; exact rfl; exact rfl; exact rfl; exact rfl; exact rfl; exact rfl; assumption; (exact extA); exact rfl; omega; assumption; intro b off h; have hcc := h; first | (obtain ⟨h1, h2, h3, h4, h5, h6, _⟩ := h) | (obtain ⟨h1, h2, h3, _⟩ := h) | (obtain ⟨h1, h2, _⟩ := h) | (obtain ⟨h1, _⟩ := h)))
    | (show Z _ _ _ _ _; apply Z.then_normal)
    | (show W _ _ _ _ _ _; first | apply W.seq | apply W.region)
    | fail)
  refine W.condKF rfl (dec_false (by omega)) ?_
  repeat' (first
    | ((apply WL.rem; exact rfl; exact rfl; exact rfl; exact rfl; omega))
    | (show WL _ _ _ _ _ _ _; first | apply WL.nil | (refine WL.au (k := ?_)))
    | (show Z _ _ _ _ _; apply Z.then_normal)
    | (show W _ _ _ _ _ _; first | apply W.seq | apply W.region | apply W.skip)
    | fail)
  by_cases hp : l % 2 = 1
  · refine W.condKT rfl (dec_true hp) ?_
    repeat' (first
      | (apply WL.nilc; exact rfl; exact rfl; exact rfl)
      | ((show WL _ _ _ (⟨_, .call ⟨.value (.func 105), _, _⟩, _, _, _, _⟩ :: _) _ _ _); apply WL.callS; exact rfl; exact rfl; exact rfl; exact rfl; exact rs_Not x _ (by omega))
      | (show WL _ _ _ _ _ _ _; first | apply WL.nil | (refine WL.au (k := ?_)) | (apply WL.index tOk; exact rfl; exact rfl; exact rfl; exact rfl; exact rfl; exact rfl; exact rfl; exact rfl; assumption; (exact extA); exact rfl; omega; assumption; intro b off h; have hcc := h; first | (obtain ⟨h1, h2, h3, h4, h5, h6, _⟩ := h) | (obtain ⟨h1, h2, h3, _⟩ := h) | (obtain ⟨h1, h2, _⟩ := h) | (obtain ⟨h1, _⟩ := h)))
      | (show Z _ _ _ _ _; first | apply Z.then_normal | apply Z.then_ret)
      | (show W _ _ _ _ _ _; first | apply W.seq | apply W.region | apply W.ret)
      | fail)
    exact Z.body1 Try.results109 rfl fun m => ⟨by rw [negB_odd hv1 hp], hX.at m, a, cap, ow, wc, Sep.ext hS ((Ext.refl _).at m)⟩
  · refine W.condKF rfl (dec_false hp) ?_
    repeat' (first
      | (apply WL.nilc; exact rfl; exact rfl; exact rfl)
      | (show WL _ _ _ _ _ _ _; first | apply WL.nil | (refine WL.au (k := ?_)) | (apply WL.index tOk; exact rfl; exact rfl; exact rfl; exact rfl; exact rfl; exact rfl; exact rfl; exact rfl; assumption; (exact extA); exact rfl; omega; assumption; intro b off h; have hcc := h; first | (obtain ⟨h1, h2, h3, h4, h5, h6, _⟩ := h) | (obtain ⟨h1, h2, h3, _⟩ := h) | (obtain ⟨h1, h2, _⟩ := h) | (obtain ⟨h1, _⟩ := h)))
      | (show Z _ _ _ _ _; apply Z.then_normal)
      | (show W _ _ _ _ _ _; first | apply W.seq | apply W.region | apply W.skip | apply W.ret)
      | fail)
    exact Z.body1 Try.results109 rfl fun m => ⟨by rw [← negB_even hp], hX.at m, a, cap, ow, wc, Sep.ext hS ((Ext.refl _).at m)⟩
def RC3 (g : Nat) (cs : Array Value) (t : Nat) (p1 p2 : Addr) (v1 v2 : Value) (w' : World) : Prop := CellC g cs t w' ∧ w'.cell? p1 = some v1 ∧ w'.cell? p2 = some v2
theorem FL.loadG {P : Program} {T : Tab} {N d : Nat} {e : Env} {w : World} {C : World → Prop} {ops l : List Oper} {Kf : Act → Prop} {tt t : TypeId} {ps : String} {af : Array Edge} {g : Option (Nat × Bool)} {x : Operand} {p : Addr} {v : Value} {i : TI} (hT : OkTab P T) (hg : gate ops e g = some true) (hd : Nat.blt d N = true) (hx : ev e x = some (.pointer (some p))) (ht : tget T t = some i) (ha : isAggD i.desc = false) (hv : ∀ w', C w' → w'.cell? p = some v)
    (k : FL P N ops.toArray C l ((d, v) :: e) w Kf) : FL P N ops.toArray C (⟨some d, .load t x, tt, ps, af, g⟩ :: l) e w Kf := by
  refine FL.step hg hd ?_ k
  intro ρ hρ w' hw'
  have h1 := run_isAgg' (hT.at ht); rw [ha] at h1
  have h2 := hv w' hw'
  simp [execOp, hρ _ _ hx, Instr.loadAt, Instr.sureAddr, loadVar, h1, h2]
set_option maxHeartbeats 16000000 in
theorem ref48_put (hg : GoodNet n) (hn : n.length ≤ 100) (hol : outs.length ≤ 1000) (ho : ∀ l ∈ outs, 0 ≤ l ∧ l ≤ 2 * (n.length : Int) + 1) (w0 : World) (Rn : Row 2 encN w0 na n) (Ro : Row 1 encI w0 oa outs) : ∀ (f : Nat) (s : BSt) (l : Int) (rest : List Piece) (w : World), BOk n s → 0 ≤ l → l / 2 ≤ (f : Int) → l / 2 ≤ n.length → RBAt n outs na oa nc oc gs gB w0 s rest w →
    Lt.Spec Try.prog 109 [.pointer (some ⟨gB, 0, none⟩), .int .i64 l] w (fun v w' => v = .int .i64 (putF n (usesV n outs) (f + 1) s l).1 ∧ RBAt n outs na oa nc oc gs gB w0 (putF n (usesV n outs) (f + 1) s l).2 rest w') := by
  intro f
  induction f with
  | zero =>
    intro s l rest w hs h0 hf hln hA
    have h1 : 0 ≤ ownO s.O l := hs.inp _ (by omega) (fun h => by have := h.1; omega)
    rw [putF, if_pos h1]
    exact ref48_putOld hn w0 s l rest w hs h0 hln h1 hA
  | succ f ih =>
    intro s l rest w hs h0 hf hln hA
    rw [putF]
    by_cases hv1 : 0 ≤ ownO s.O l
    · rw [if_pos hv1]
      exact ref48_putOld hn w0 s l rest w hs h0 hln hv1 hA
    rw [if_neg hv1]
    have hgt : gateN n (l / 2) := by
      refine Classical.byContradiction fun h => hv1 (hs.inp _ (by omega) ?_)
      rw [show (((l / 2).toNat : Nat) : Int) = l / 2 by omega]; exact h
    obtain ⟨a1, a2, a3, a4⟩ := leaf_all (U := usesV n outs) hg n.length (l / 2) (by omega) hgt
    have a5 := leaf_len (outs := outs) hg n.length (l / 2)
    have hlv := fun (w9 : World) (h9 : Ext w0 w9) => ref48_Leaves na oa nc oc n outs hg (by omega) (by omega) ho n.length (l / 2) w9 (Rn.ext h9) (Ro.ext h9) (.inl (by omega)) (by omega)
    have hput := put_ok (outs := outs) hg (f + 1) s l hs h0 hf hln
    rw [putF, if_neg hv1] at hput
    unfold putG leafL at hput ⊢
    generalize leafF n (usesV n outs) n.length (l / 2) = L at *
    have hpo : ∀ s z, BOk n s → z ∈ L → BPut n s z (putF n (usesV n outs) (f + 1) s z) := fun s z hs hz => put_ok (outs := outs) hg f s z hs (a2 z hz).1 (by have := (a2 z hz).2; omega) (by have := (a2 z hz).2; omega)
    have hq := fun k hk => puts_ok (put := putF n (usesV n outs) (f + 1)) hs hpo k hk
    have ih' : ∀ (s : BSt) (z : Int) (rest : List Piece) (w : World), BOk n s → z ∈ L → RBAt n outs na oa nc oc gs gB w0 s rest w → Lt.Spec Try.prog 109 [.pointer (some ⟨gB, 0, none⟩), .int .i64 z] w (fun v w' => v = .int .i64 (putF n (usesV n outs) (f + 1) s z).1 ∧ RBAt n outs na oa nc oc gs gB w0 (putF n (usesV n outs) (f + 1) s z).2 rest w') := fun s z rest w hs hz hA => ih s z rest w hs (a2 z hz).1 (by have := (a2 z hz).2; omega) (by have := (a2 z hz).2; omega) hA
    clear ih
    generalize putF n (usesV n outs) (f + 1) = put at *
    obtain ⟨hX, a, cap, ow, wc, hS⟩ := hA
    have hol9 := hs.len
    obtain ⟨x, hx⟩ := getI s.O (show (l / 2).toNat < s.O.length by omega)
    have hxe : ownO s.O l = x := getD_of hx
    rw [hxe] at hv1
    obtain ⟨n0, n1, n2, n3, _⟩ := cells_heap (hS.cell (i := 2) rfl)
    have RO := (hS.row (i := 3) rfl).row encI_ok
    refine Spec.of _ Try.func109 rfl Try.ntmps109 (by kernel_rfl) rfl ?_
    repeat' (first
      | (apply WL.nilc; exact rfl; exact rfl; exact rfl)
      | (show WL _ _ _ _ _ _ _; first | apply WL.nil | (refine WL.au (k := ?_)) | (apply WL.index tOk; exact rfl; exact rfl; exact rfl; exact rfl; exact rfl; exact rfl; exact rfl; exact rfl; assumption; (exact extA); exact rfl; omega; assumption; intro b off h; have hcc := h; first | (obtain ⟨h1, h2, h3, h4, h5, h6, _⟩ := h) | (obtain ⟨h1, h2, h3, _⟩ := h) | (obtain ⟨h1, h2, _⟩ := h) | (obtain ⟨h1, _⟩ := h)))
      | (show Z _ _ _ _ _; apply Z.then_normal)
      | (show W _ _ _ _ _ _; first | apply W.seq | apply W.region)
      | fail)
    refine W.condKT rfl (dec_true (by omega)) ?_
    repeat' (first
      | (show W _ _ _ _ _ _; apply W.seq)
      | fail)
    refine W.cutT (σ := (Option Addr × Nat × Option Addr × Nat) × World) (fun s9 => Ext w0 s9.2 ∧ Lt.Sep w0.heap.size s9.2 (rbP n outs na oa nc oc gs gB w0.heap.size a cap ow wc s ++ (prow 1 encI 3 w0.heap.size s9.1.1 s9.1.2.1 L :: prow 1 encI 3 w0.heap.size s9.1.2.2.1 s9.1.2.2.2 [] :: rest))) (fun s9 => [(0, .pointer (some ⟨gB, 0, none⟩)), (1, .int .i64 l), (5, .int .i64 (l / 2)), (6, .slice s9.1.2.2.1 0 s9.1.2.2.2), (7, .slice s9.1.1 L.length s9.1.2.1)]) (fun s9 => s9.2) ?_ ?_
    · repeat' (first
        | (apply FL.nilc; exact rfl; exact rfl; exact rfl)
        | (show W _ _ (.region 3 _ _) _ _ _; apply W.regionGX (.fl true 1 (.fl true 2 (.fl true 3 (.fl true 5 (.fl true 6 (.fl true 7 (.fl true 9 (.fl false 4 (.fl false 8 (.br 0 (.br 10 (.fl true 11 (.fl true 12 .done)) .stop) (.br 10 (.br 0 (.fl true 11 (.fl true 12 .done)) .stop) .stop))))))))))) [0, 8, 11] tMix; kernel_rfl)
        | (apply WL.lit (len := 0) tOk; exact rfl; exact rfl; exact rfl; exact rfl; exact rfl; exact rfl; (first | exact rfl | kernel_rfl | (simp [Instr.fill, catCells]; done)); exact rfl; intro gb w' hb hge hc hx; have hO0 := Own.of_block0 (enc := encI) (s := 1) hb hge; (obtain ⟨gA, rfl⟩ : ∃ x, x = gb := ⟨_, rfl⟩; obtain ⟨wA, rfl⟩ : ∃ x, x = w' := ⟨_, rfl⟩; obtain ⟨hxA, rfl⟩ : ∃ x, x = hx := ⟨_, rfl⟩; obtain ⟨hOA, rfl⟩ : ∃ x, x = hO0 := ⟨_, rfl⟩))
        | (apply WL.call; exact rfl; exact rfl; exact rfl; exact rfl; exact hlv _ (hX.trans (by (exact extA))); rintro v' w' ⟨hx, a', cap', rfl, hO⟩; (obtain ⟨aL, rfl⟩ : ∃ x, x = a' := ⟨_, rfl⟩; obtain ⟨cL, rfl⟩ : ∃ x, x = cap' := ⟨_, rfl⟩; obtain ⟨hOL, rfl⟩ : ∃ x, x = hO := ⟨_, rfl⟩; obtain ⟨hxL, rfl⟩ : ∃ x, x = hx := ⟨_, rfl⟩; obtain ⟨wL, rfl⟩ : ∃ x, x = w' := ⟨_, rfl⟩))
        | (show SX _ _ _ _ _ _ _ _ _; first | (apply SX.done; intro w' hx) | (apply SX.fl0; exact rfl) | (apply SX.fl1; exact rfl; (exact extA)) | (apply SX.br1; exact rfl; intro w' hx) | (apply SX.br; exact rfl; (intro w' hx)))
        | (show FL _ _ _ _ _ _ _ _; first | apply FL.nilX | (apply FL.loadE tOk; exact rfl; exact rfl; exact rfl; exact rfl; exact rfl; assumption))
        | (show FL _ _ _ _ _ _ _ _; (refine FL.au (k := ?_)))
        | (show Z _ _ _ _ _; first | (apply Z.sxL; exact rfl) | (apply Z.sxE; (exact extA)))
        | (show WL _ _ _ _ _ _ _; apply WL.nil)
        | fail)
      all_goals
        first
        | (have hS1 := Sep.putMid (A := [_, _, _, _]) (Sep.newRow' (Sep.ext hS (show Ext w _ from (by (exact extA)))) hxA hOA (Below.size (hX.trans (show Ext w _ from (by (exact extA))))))
           have hS2 := Sep.putMid (A := [_, _, _, _]) (Sep.newRow' (Sep.ext hS1 (show Ext wA _ from (by (exact extA)))) hxL hOL (Below.size (hX.trans (show Ext w _ from (by (exact extA))))))
           exact Z.cut ((aL, cL, some ⟨gA, 0, none⟩, 0), _) ⟨hX.trans (by (exact extA)), Sep.ext hS2 (by (exact extA))⟩ ⟨rfl, rfl, rfl, rfl, rfl, trivial⟩ rfl)
        | (have hS1 := Sep.putMid (A := [_, _, _, _]) (Sep.newRow' (Sep.ext hS (show Ext w _ from (by (exact extA)))) hxL hOL (Below.size (hX.trans (show Ext w _ from (by (exact extA))))))
           have hS2 := Sep.putMid (A := [_, _, _, _, _]) (Sep.newRow' (Sep.ext hS1 (show Ext wL _ from (by (exact extA)))) hxA hOA (Below.size (hX.trans (show Ext w _ from (by (exact extA))))))
           exact Z.cut ((aL, cL, some ⟨gA, 0, none⟩, 0), _) ⟨hX.trans (by (exact extA)), Sep.ext hS2 (by (exact extA))⟩ ⟨rfl, rfl, rfl, rfl, rfl, trivial⟩ rfl)
    clear hS hX n0 n1 n2 n3 RO hlv
    rintro ⟨⟨aL, cL, aA, cA⟩, w2⟩ ⟨hX2, hS2⟩
    dsimp only at hX2 hS2 ⊢
    have hA2 : RBAt n outs na oa nc oc gs gB w0 s (prow 1 encI 3 w0.heap.size aL cL L :: prow 1 encI 3 w0.heap.size aA cA [] :: rest) w2 := ⟨hX2, a, cap, ow, wc, hS2⟩
    clear hX2 hS2
    repeat' (first
      | (show WL _ _ _ _ _ _ _; first | apply WL.nil | (refine WL.au (k := ?_)))
      | (show Z _ _ _ _ _; apply Z.then_normal)
      | (show W _ _ _ _ _ _; first | apply W.seq | apply W.region | apply W.block)
      | fail)
    refine W.loop (σ := (Option Addr × Nat × Nat) × World) (fun s9 => s9.1.2.2 ≤ L.length ∧ RBAt n outs na oa nc oc gs gB w0 (putsTo put s L s9.1.2.2).2 (prow 1 encI 3 w0.heap.size aL cL L :: prow 1 encI 3 w0.heap.size s9.1.1 s9.1.2.1 (putsTo put s L s9.1.2.2).1 :: rest) s9.2) (fun s9 => [(0, .pointer (some ⟨gB, 0, none⟩)), (1, .int .i64 l), (5, .int .i64 (l / 2)), (6, .slice s9.1.1 (putsTo put s L s9.1.2.2).1.length s9.1.2.1), (7, .slice aL L.length cL), (8, .int .i64 s9.1.2.2)]) (fun s9 => s9.2) (fun s9 => L.length - s9.1.2.2) ((aA, cA, 0), w2) ⟨Nat.zero_le _, hA2⟩ ⟨rfl, rfl, rfl, rfl, rfl, rfl, trivial⟩ rfl ?_
    clear hA2
    rintro ⟨⟨aA, cA, k⟩, w3⟩ ⟨hk, hA3⟩
    dsimp only at hk hA3 ⊢
    have hqk := hq k hk
    have hA3' := hA3
    obtain ⟨hX3, a3, cap3, ow3, wc3, hS3⟩ := hA3'
    have hRL := (hS3.row (i := 4) rfl).row encI_ok
    by_cases hlt : k < L.length
    · obtain ⟨z, hz⟩ := getI L hlt
      have hzm := List.mem_of_getElem? hz
      have hst := putsTo_succ (put := put) (s := s) hz
      have hql := hqk.len
      have hqo := hqk.ok
      obtain ⟨q, hqe⟩ : ∃ q, putsTo put s L k = q := ⟨_, rfl⟩
      rw [hqe] at hst hqo hql hA3 ⊢
      have hpz := hpo q.2 z hqo hzm
      repeat' (first
        | (show WL _ _ _ _ _ _ _; first | apply WL.nil | (refine WL.au (k := ?_)))
        | (show Z _ _ _ _ _; apply Z.then_normal)
        | (show W _ _ _ _ _ _; first | apply W.seq | apply W.region)
        | fail)
      refine W.condKT rfl (dec_true (by omega)) ?_
      repeat' (first
        | (((show WL _ _ _ (⟨_, .call ⟨.value (.func 109), _, _⟩, _, _, _, _⟩ :: _) _ _ _); apply WL.call; exact rfl; exact rfl; exact rfl; exact rfl; exact ih' q.2 z _ w3 hqo hzm hA3; rintro v' w4 ⟨rfl, hX4, a4, cap4, ow4, wc4, hS4⟩; have hRA := hS4.row (i := 5) rfl))
        | (apply WL.lit tOk; exact rfl; exact rfl; exact rfl; exact rfl; exact rfl; exact rfl; (first | exact rfl | kernel_rfl | (simp [Instr.fill, catCells]; done)); exact rfl; intro gb w' hb hge hc hx)
        | (apply WL.append1 (z := ((put q.2 z).1)) tOk encI_ok; exact rfl; exact rfl; exact rfl; exact rfl; exact rfl; exact rfl; exact rfl; exact rfl; exact rfl; exact rfl; assumption; (exact extA); (first | exact rfl | (focus (simp only [List.length_set]; done)) | (focus (simp; done)) | (focus (simp [*]; done)) | omega | (focus (simp only [List.length_set]; omega))); (first | assumption | (refine Cells.ext ?_ (by assumption); exact extA)); exact rfl; exact rfl; (exact extA); (first | omega | (simp; omega) | (simp at *; omega)); intro a' cap' w' hO hX' hU hF)
        | (show WL _ _ _ _ _ _ _; first | apply WL.nil | (refine WL.au (k := ?_)) | (apply WL.index tOk; exact rfl; exact rfl; exact rfl; exact rfl; exact rfl; exact rfl; exact rfl; exact rfl; assumption; (exact extA); exact rfl; omega; assumption; intro b off h; have hcc := h; first | (obtain ⟨h1, h2, h3, h4, h5, h6, _⟩ := h) | (obtain ⟨h1, h2, h3, _⟩ := h) | (obtain ⟨h1, h2, _⟩ := h) | (obtain ⟨h1, _⟩ := h)))
        | (show Z _ _ _ _ _; first | apply Z.then_normal | apply Z.block_normal)
        | (show W _ _ _ _ _ _; first | apply W.seq | apply W.region | apply W.block | apply W.skip)
        | fail)
      have hS5 := Sep.updRow (i := 5) rfl hU hO hF (Sep.ext hS4 (by (exact extA))) (Ext.refl _) (Below.size (show Ext w0 _ from (by (exact extA))))
      exact Z.again ((a', cap', k + 1), w') ⟨by dsimp only; omega, by dsimp only; rw [hst]; exact ⟨(by (exact extA)), a4, cap4, ow4, wc4, hS5⟩⟩ (by dsimp only; omega) (by dsimp only; rw [hst]; exact ⟨rfl, rfl, rfl, rfl, rfl, rfl, trivial⟩) rfl
    obtain rfl : k = L.length := by omega
    have hql := hqk.len
    have hqo := hqk.ok
    have hqh := hqk.has
    have hqf := hqk.far (l / 2).toNat fun z hz => by have := (a2 z hz).2; omega
    obtain ⟨q, hqe⟩ : ∃ q, putsTo put s L L.length = q := ⟨_, rfl⟩
    rw [hqe] at hqo hql hqh hqf hS3 hput ⊢
    clear hA3 hqk hq hqe hpo ih' hRL
    have hqN := hqo.small hn
    have hOl : (l / 2).toNat < q.2.O.length := by rw [hqo.len]; omega
    have hAok := allB_ok q.1.length q.2.N q.1 hqo.tidy hqh (by omega) (Nat.le_succ _)
    have hAs := hput.ok.small hn
    repeat' (first
      | (show WL _ _ _ _ _ _ _; first | apply WL.nil | (refine WL.au (k := ?_)))
      | (show Z _ _ _ _ _; apply Z.then_normal)
      | (show W _ _ _ _ _ _; first | apply W.seq | apply W.region)
      | fail)
    refine W.condKF rfl (dec_false (by omega)) ?_
    repeat' (first
      | (show Z _ _ _ _ _; first | apply Z.then_normal | apply Z.then_exit | apply Z.block_exit)
      | (show W _ _ _ _ _ _; first | apply W.seq | apply W.block | apply W.exit)
      | fail)
    obtain ⟨tot, htot⟩ : ∃ t, t = allB q.1.length q.2.N q.1 := ⟨_, rfl⟩
    rw [← htot] at hput hAok hAs ⊢
    refine W.loop (σ := (Option Addr × Nat × List Int × List (Int × Int) × Nat) × World) (fun s => tot = allB s.1.2.2.2.2 s.1.2.2.2.1 s.1.2.2.1 ∧ 1 ≤ s.1.2.2.1.length ∧ s.1.2.2.1.length ≤ s.1.2.2.2.2 + 1 ∧ Tidy s.1.2.2.2.1 ∧ s.1.2.2.2.1.length + s.1.2.2.1.length ≤ 1000000 ∧ (∀ z ∈ s.1.2.2.1, hasL s.1.2.2.2.1 z) ∧ Ext w0 s.2 ∧ ∃ a cap, Lt.Sep w0.heap.size s.2 (rbP n outs na oa nc oc gs gB w0.heap.size a cap ow3 wc3 ⟨s.1.2.2.2.1, q.2.O⟩ ++ (prow 1 encI 3 w0.heap.size aL cL L :: prow 1 encI 3 w0.heap.size s.1.1 s.1.2.1 s.1.2.2.1 :: rest))) (fun s => [(0, .pointer (some ⟨gB, 0, none⟩)), (1, .int .i64 l), (5, .int .i64 (l / 2)), (6, .slice s.1.1 s.1.2.2.1.length s.1.2.1)]) (fun s => s.2) (fun s => s.1.2.2.2.2) ((aA, cA, q.1, q.2.N, q.1.length), w3) ⟨htot, by dsimp only; omega, Nat.le_succ _, hqo.tidy, by dsimp only; omega, hqh, hX3, a3, cap3, hS3⟩ ⟨rfl, rfl, rfl, rfl, trivial⟩ rfl ?_
    clear hS3 hX3 htot hqh hlt
    rintro ⟨⟨ll, lp, K, N, f⟩, w3⟩ ⟨hE, h1L, hLf, hT, hN, hL, hX3, a3, cap3, hS3⟩
    dsimp only at hE h1L hLf hT hN hL hX3 hS3 ⊢
    have hC0 := hS3.cell (i := 0) rfl
    have hC2 := hS3.cell (i := 2) rfl
    have RN3 := (hS3.row (i := 1) rfl).row encN_ok
    have RK3 := (hS3.row (i := 5) rfl).row encI_ok
    obtain ⟨n0, n1, n2, n3, _⟩ := cells_heap hC2
    by_cases hlt : 1 < K.length
    · obtain ⟨f, rfl⟩ : ∃ f9, f = f9 + 1 := ⟨f - 1, by omega⟩
      rw [allB, if_neg (by omega)] at hE
      have hm := mrg_mem (N := N) (L := K) (by omega)
      have hml := mrgR_len (N := N) (L := K) (by omega)
      have hx9 := hL _ hm.1
      have hy9 := hL _ hm.2.1
      have hi1 := fstP_lt (N := N) (L := K) (by omega)
      have hel : (K.eraseIdx (fstP N K)).length = K.length - 1 := List.length_eraseIdx_of_lt hi1
      have hi2 := fstP_lt (N := N) (L := K.eraseIdx (fstP N K)) (by omega)
      have hA9 : mrgA N K = andV N (K.getD (fstP N K) 0) (K.getD (upI (fstP N K) (fstP N (K.eraseIdx (fstP N K)))) 0) := by rw [← erase_up]; rfl
      have hA8 := andV_comm N (K.getD (fstP N K) 0) (K.getD (upI (fstP N K) (fstP N (K.eraseIdx (fstP N K)))) 0)
      rw [← hA9] at hA8
      have hAl := andV_len N (K.getD (fstP N K) 0) (K.getD (upI (fstP N K) (fstP N (K.eraseIdx (fstP N K)))) 0)
      rw [← hA9] at hAl
      have hAh := andV_has hx9 hy9
      rw [erase_up, ← hA9] at hAh
      have hAt := hT.and (K.getD (fstP N K) 0) (K.getD (upI (fstP N K) (fstP N (K.eraseIdx (fstP N K)))) 0)
      rw [← hA9] at hAt
      have hul : upI (fstP N K) (fstP N (K.eraseIdx (fstP N K))) < K.length := by unfold upI; split <;> omega
      have hR1 := restF_all (N := N) (L := K) (by omega)
      have hR2 := restF_comm K (fstP N K) (upI (fstP N K) (fstP N (K.eraseIdx (fstP N K)))) K.length
      rw [hR1] at hR2
      have hl1 := fun (w9 : World) (h9 : Ext w3 w9) => ref48_least gs cap3 lp a3 ll N K (-1) w9 (Ext.heap h9 hC0) (RN3.ext h9) (RK3.ext h9) hT.good (by omega) hL (by omega) (by omega)
      rw [bestR_none, if_neg (by omega), show fstTo N K K.length = fstP N K from rfl] at hl1
      have hl2 := fun (w9 : World) (h9 : Ext w3 w9) => ref48_least gs cap3 lp a3 ll N K (fstP N K : Nat) w9 (Ext.heap h9 hC0) (RN3.ext h9) (RK3.ext h9) hT.good (by omega) hL (by omega) (by omega)
      have hsn : seenI (fstP N K) K.length = K.length - 1 := by unfold seenI; rw [if_neg (by omega)]
      have hfe : fstTo N (K.eraseIdx (fstP N K)) (K.length - 1) = fstP N (K.eraseIdx (fstP N K)) := by show _ = fstTo N (K.eraseIdx (fstP N K)) (K.eraseIdx (fstP N K)).length; rw [hel]
      rw [bestR_but, hsn, if_neg (by omega), hfe] at hl2
      generalize upI (fstP N K) (fstP N (K.eraseIdx (fstP N K))) = k0 at *
      generalize hi0 : fstP N K = i0 at *
      repeat' (first
        | (show WL _ _ _ _ _ _ _; first | apply WL.nil | (refine WL.au (k := ?_)))
        | (show Z _ _ _ _ _; apply Z.then_normal)
        | (show W _ _ _ _ _ _; first | apply W.seq | apply W.region)
        | fail)
      refine W.condKT rfl (dec_true (by omega)) ?_
      repeat' (first
        | (apply WL.nilc; exact rfl; exact rfl; exact rfl)
        | (((show WL _ _ _ (⟨_, .call ⟨.value (.func 149), _, _⟩, _, _, _, _⟩ :: _) _ _ _); apply WL.call; exact rfl; exact rfl; exact rfl; exact rfl; (first | exact hl1 _ (by (exact extA)) | exact hl2 _ (by (exact extA))); rintro v' w4 ⟨rfl, hx4⟩))
        | (show WL _ _ _ _ _ _ _; first | apply WL.nil | (refine WL.au (k := ?_)))
        | (show Z _ _ _ _ _; apply Z.then_normal)
        | (show W _ _ _ _ _ _; first | apply W.seq | apply W.region | apply W.block | apply W.skip)
        | fail)
      have hX34 : Ext w3 w4 := (by (exact extA))
      refine W.cutT (σ := (Nat × Nat) × World) (fun s => s.1.1 < K.length ∧ s.1.2 < K.length ∧ andV N (K.getD s.1.1 0) (K.getD s.1.2 0) = mrgA N K ∧ restF K s.1.1 s.1.2 K.length = mrgR N K ∧ s.2 = w4) (fun s => [(0, .pointer (some ⟨gB, 0, none⟩)), (1, .int .i64 l), (5, .int .i64 (l / 2)), (6, .slice ll K.length lp), (9, .int .i64 s.1.1), (10, .int .i64 s.1.2)]) (fun s => s.2) ?_ ?_
      · refine W.condB rfl (fun _ => ?_) (fun _ => ?_)
        · repeat' (first
            | (show WL _ _ _ _ _ _ _; first | apply WL.nil | (refine WL.au (k := ?_)))
            | (show W _ _ _ _ _ _; apply W.region)
            | fail)
          exact Z.cut ((k0, i0), w4) ⟨hul, hi1, hA8.symm, hR2.symm, rfl⟩ ⟨rfl, rfl, rfl, rfl, rfl, rfl, trivial⟩ rfl
        · repeat' (first
            | (show W _ _ _ _ _ _; apply W.skip)
            | fail)
          exact Z.cut ((i0, k0), w4) ⟨hi1, hul, hA9.symm, hR1, rfl⟩ ⟨rfl, rfl, rfl, rfl, rfl, rfl, trivial⟩ rfl
      rintro ⟨⟨p, q9⟩, w5⟩ ⟨hp, hq9, hpq, hre, rfl⟩
      dsimp only at hp hq9 hpq hre ⊢
      have hX5 : Ext w0 w5 := hX3.trans hX34
      have hS5 := Sep.ext hS3 hX34
      clear hS3 hX3 hC0 hC2 RN3 RK3 n0 n1 n2 n3 hl1 hl2 hR1 hR2 hA8 hA9
      obtain ⟨xp, hxp⟩ := getI K hp
      obtain ⟨xq, hxq⟩ := getI K hq9
      rw [getD_of hxp, getD_of hxq] at hpq
      have hxp' : K[((p : Nat) : Int).toNat]? = some xp := hxp
      have hxq' : K[((q9 : Nat) : Int).toNat]? = some xq := hxq
      obtain ⟨gK, rfl⟩ := Own.some' (hS5.row (i := 5) rfl) h1L
      have hOK5 := hS5.row (i := 5) rfl
      have hCC : ∀ w', CellC gB #[.slice na n.length nc, .slice oa outs.length oc, .pointer (some ⟨gs, 0, none⟩), .slice ow3 q.2.O.length wc3] 124 w' → Own 1 encI 3 w0.heap.size w' (some ⟨gK, 0, none⟩) lp K → RC3 gB #[.slice na n.length nc, .slice oa outs.length oc, .pointer (some ⟨gs, 0, none⟩), .slice ow3 q.2.O.length wc3] 124 ⟨gK, ((p : Nat) : Int).toNat * 1, none⟩ ⟨gK, ((q9 : Nat) : Int).toNat * 1, none⟩ (.int .i64 xp) (.int .i64 xq) w' := fun w' h1 h2 => by
        obtain ⟨b1, o1, e1, c1⟩ := (h2.row encI_ok).elem p xp hxp
        obtain ⟨b2, o2, e2, c2⟩ := (h2.row encI_ok).elem q9 xq hxq
        cases e1; cases e2
        exact ⟨h1, by have := c1.1; simpa using this, by have := c2.1; simpa using this⟩
      have hCC5 := hCC w5 (hS5.cell (i := 2) rfl) hOK5
      have hc1 : ∀ w', (RC3 gB #[.slice na n.length nc, .slice oa outs.length oc, .pointer (some ⟨gs, 0, none⟩), .slice ow3 q.2.O.length wc3] 124 ⟨gK, ((p : Nat) : Int).toNat * 1, none⟩ ⟨gK, ((q9 : Nat) : Int).toNat * 1, none⟩ (.int .i64 xp) (.int .i64 xq) w') → w'.cell? ⟨gB, 2, none⟩ = some (.pointer (some ⟨gs, 0, none⟩)) := fun w' h => by
        obtain ⟨_, _, h3, _⟩ := cells_heap h.1
        exact h3
      have hc2 : ∀ w', (RC3 gB #[.slice na n.length nc, .slice oa outs.length oc, .pointer (some ⟨gs, 0, none⟩), .slice ow3 q.2.O.length wc3] 124 ⟨gK, ((p : Nat) : Int).toNat * 1, none⟩ ⟨gK, ((q9 : Nat) : Int).toNat * 1, none⟩ (.int .i64 xp) (.int .i64 xq) w') → w'.cell? ⟨gK, ((p : Nat) : Int).toNat * 1, none⟩ = some (.int .i64 xp) := fun w' h => h.2.1
      have hc3 : ∀ w', (RC3 gB #[.slice na n.length nc, .slice oa outs.length oc, .pointer (some ⟨gs, 0, none⟩), .slice ow3 q.2.O.length wc3] 124 ⟨gK, ((p : Nat) : Int).toNat * 1, none⟩ ⟨gK, ((q9 : Nat) : Int).toNat * 1, none⟩ (.int .i64 xp) (.int .i64 xq) w') → w'.cell? ⟨gK, ((q9 : Nat) : Int).toNat * 1, none⟩ = some (.int .i64 xq) := fun w' h => h.2.2
      repeat' (first
        | (show W _ _ _ _ _ _; apply W.seq)
        | fail)
      refine W.cutT (σ := (Option Addr × Nat × Option Addr × Nat) × World) (fun s9 => Ext w0 s9.2 ∧ Lt.Sep w0.heap.size s9.2 (rbP n outs na oa nc oc gs gB w0.heap.size s9.1.1 s9.1.2.1 ow3 wc3 ⟨(mrgA N K).2, q.2.O⟩ ++ (prow 1 encI 3 w0.heap.size aL cL L :: prow 1 encI 3 w0.heap.size (some ⟨gK, 0, none⟩) lp K :: prow 1 encI 3 w0.heap.size s9.1.2.2.1 s9.1.2.2.2 [] :: rest))) (fun s9 => [(0, .pointer (some ⟨gB, 0, none⟩)), (1, .int .i64 l), (5, .int .i64 (l / 2)), (6, .slice (some ⟨gK, 0, none⟩) K.length lp), (9, .int .i64 p), (10, .int .i64 q9), (11, .int .i64 (mrgA N K).1), (12, .slice s9.1.2.2.1 0 s9.1.2.2.2)]) (fun s9 => s9.2) ?_ ?_
      · repeat' (first
          | (apply FL.nilc; exact rfl; exact rfl; exact rfl)
          | (show W _ _ (.region 13 _ _) _ _ _; apply W.regionG (.fl true 0 (.fl true 1 (.fl true 2 (.fl true 4 (.fl true 5 (.fl true 6 (.fl true 8 (.fl true 9 (.fl true 10 (.fl false 3 (.fl false 7 (.fl false 11 (.br 12 (.fl true 14 (.br 13 (.fl true 15 .done) .stop)) (.br 13 (.br 12 (.fl true 14 (.fl true 15 .done)) .stop) .stop)))))))))))))) [7, 11, 13] (RC3 gB #[.slice na n.length nc, .slice oa outs.length oc, .pointer (some ⟨gs, 0, none⟩), .slice ow3 q.2.O.length wc3] 124 ⟨gK, ((p : Nat) : Int).toNat * 1, none⟩ ⟨gK, ((q9 : Nat) : Int).toNat * 1, none⟩ (.int .i64 xp) (.int .i64 xq)) tMix; kernel_rfl)
          | ((show FL _ _ _ _ _ _ _ _; apply FL.loadG tOk; exact rfl; exact rfl; exact rfl; exact rfl; exact rfl; first | exact hc2 | exact hc3 | exact hc1))
          | (apply FL.indexO tOk; exact rfl; exact rfl; exact rfl; exact rfl; exact rfl; exact rfl; exact rfl; exact rfl; assumption; (exact extA); exact encI_ok; (first | exact rfl | (focus (simp only [List.length_set]; done)) | (focus (simp; done)) | (focus (simp [*]; done)) | omega | (focus (simp only [List.length_set]; omega))); omega; assumption; intro gb ha hc; cases ha; have hcc := hc; first | (obtain ⟨h1, h2, h3, _⟩ := hc) | (obtain ⟨h1, h2, _⟩ := hc) | (obtain ⟨h1, _⟩ := hc))
          | (((show WL _ _ _ (⟨_, .call ⟨.value (.func 106), _, _⟩, _, _, _, _⟩ :: _) _ _ _); apply WL.call; exact rfl; exact rfl; exact rfl; exact rfl; exact rs_And gs cap3 a3 N xp xq ([pcell gB #[.slice na n.length nc, .slice oa outs.length oc, .pointer (some ⟨gs, 0, none⟩), .slice ow3 q.2.O.length wc3] 124, prow 1 encI 3 w0.heap.size ow3 wc3 q.2.O] ++ (prow 1 encI 3 w0.heap.size aL cL L :: prow 1 encI 3 w0.heap.size (some ⟨gK, 0, none⟩) lp K :: prow 1 encI 3 w0.heap.size (some ⟨gR, 0, none⟩) 0 [] :: rest)) _ w0 (hX5.trans (show Ext w5 _ from (by (exact extA)))) (Sep.ext hSR (by (exact extA))) (by omega); rw [hpq]; rintro v' w7 ⟨hX7, a7, c7, rfl, hSf⟩; have hCC7 := hCC w7 (hSf.cell (i := 2) rfl) (hSf.row (i := 5) rfl)))
          | (((show WL _ _ _ (⟨_, .call ⟨.value (.func 106), _, _⟩, _, _, _, _⟩ :: _) _ _ _); apply WL.call; exact rfl; exact rfl; exact rfl; exact rfl; exact rs_And gs cap3 a3 N xp xq ([pcell gB #[.slice na n.length nc, .slice oa outs.length oc, .pointer (some ⟨gs, 0, none⟩), .slice ow3 q.2.O.length wc3] 124, prow 1 encI 3 w0.heap.size ow3 wc3 q.2.O] ++ (prow 1 encI 3 w0.heap.size aL cL L :: prow 1 encI 3 w0.heap.size (some ⟨gK, 0, none⟩) lp K :: rest)) _ w0 (hX5.trans (show Ext w5 _ from (by (exact extA)))) (Sep.ext hS5 (by (exact extA))) (by omega); rw [hpq]; rintro v' w7 ⟨hX7, a7, c7, rfl, hS7⟩; have hCC7 := hCC w7 (hS7.cell (i := 2) rfl) (hS7.row (i := 5) rfl)))
          | (apply WL.lit (len := 0) tOk; exact rfl; exact rfl; exact rfl; exact rfl; exact rfl; exact rfl; (first | exact rfl | kernel_rfl | (simp [Instr.fill, catCells]; done)); exact rfl; intro gb w' hb hge hc hx; have hO0 := Own.of_block0 (enc := encI) (s := 1) hb hge; (obtain ⟨gR, rfl⟩ : ∃ x, x = gb := ⟨_, rfl⟩; obtain ⟨wR, rfl⟩ : ∃ x, x = w' := ⟨_, rfl⟩; obtain ⟨hxR, rfl⟩ : ∃ x, x = hx := ⟨_, rfl⟩; obtain ⟨hOR, rfl⟩ : ∃ x, x = hO0 := ⟨_, rfl⟩; first | (have hSf := Sep.putMid (A := [_, _, _, _, _, _]) (Sep.newRow' (Sep.ext hS7 (show Ext w7 _ from (by (exact extA)))) hxR hOR (Below.size (hX7.trans (show Ext w7 _ from (by (exact extA)))))); have hCCR := hCC wR (hSf.cell (i := 2) rfl) (hSf.row (i := 5) rfl)) | (have hSR := Sep.putMid (A := [_, _, _, _, _, _]) (Sep.newRow' (Sep.ext hS5 (show Ext w5 _ from (by (exact extA)))) hxR hOR (Below.size (hX5.trans (show Ext w5 _ from (by (exact extA)))))); have hCCR := hCC wR (hSR.cell (i := 2) rfl) (hSR.row (i := 5) rfl))))
          | (show WL _ _ _ _ _ _ _; apply WL.nil)
          | (show SG _ _ _ _ _ _ _ _ _; first | apply SG.done | (apply SG.fl0; exact rfl) | (apply SG.fl1; exact rfl; (focus ((intro m; first | assumption | (apply Ext.at; (exact extA)) | apply But.of_at; first | exact But.upd (by assumption) | exact But.ext (by (exact extA)) | (refine But.trans ?_ (But.upd (by assumption)); exact But.ext (by (exact extA))) | exact But.at _ _ _); done))) | (apply SG.br1; exact rfl) | (apply SG.br; exact rfl))
          | (show FL _ _ _ _ _ _ _ _; first | apply FL.nilS | (refine FL.au (k := ?_)))
          | (show Z _ _ _ _ _; first | (apply Z.sgL; exact rfl) | (apply Z.sgE; (focus ((intro m; first | assumption | (apply Ext.at; (exact extA)) | apply But.of_at; first | exact But.upd (by assumption) | exact But.ext (by (exact extA)) | (refine But.trans ?_ (But.upd (by assumption)); exact But.ext (by (exact extA))) | exact But.at _ _ _); done))))
          | fail)
        all_goals exact Z.cut ((a7, c7, some ⟨gR, 0, none⟩, 0), _) ⟨(show Ext w0 _ from hX7.trans (by (exact extA))), Sep.ext hSf (by (exact extA))⟩ ⟨rfl, rfl, rfl, rfl, rfl, rfl, rfl, rfl, trivial⟩ rfl
      clear hS5 hX5 hX34 hCC hCC5 hc1 hc2 hc3 hOK5 hxp' hxq'
      rintro ⟨⟨a7, c7, aR, cR⟩, w6⟩ ⟨hX6, hS6⟩
      dsimp only at hX6 hS6 ⊢
      repeat' (first
        | (show WL _ _ _ _ _ _ _; first | apply WL.nil | (refine WL.au (k := ?_)))
        | (show Z _ _ _ _ _; apply Z.then_normal)
        | (show W _ _ _ _ _ _; first | apply W.seq | apply W.region | apply W.block)
        | fail)
      refine W.loop (σ := (Option Addr × Nat × Nat) × World) (fun s9 => s9.1.2.2 ≤ K.length ∧ Ext w0 s9.2 ∧ Lt.Sep w0.heap.size s9.2 (rbP n outs na oa nc oc gs gB w0.heap.size a7 c7 ow3 wc3 ⟨(mrgA N K).2, q.2.O⟩ ++ (prow 1 encI 3 w0.heap.size aL cL L :: prow 1 encI 3 w0.heap.size (some ⟨gK, 0, none⟩) lp K :: prow 1 encI 3 w0.heap.size s9.1.1 s9.1.2.1 (restF K p q9 s9.1.2.2) :: rest))) (fun s9 => [(0, .pointer (some ⟨gB, 0, none⟩)), (1, .int .i64 l), (5, .int .i64 (l / 2)), (6, .slice (some ⟨gK, 0, none⟩) K.length lp), (9, .int .i64 p), (10, .int .i64 q9), (11, .int .i64 (mrgA N K).1), (12, .slice s9.1.1 (restF K p q9 s9.1.2.2).length s9.1.2.1), (13, .int .i64 s9.1.2.2)]) (fun s9 => s9.2) (fun s9 => K.length - s9.1.2.2) ((aR, cR, 0), w6) ⟨Nat.zero_le _, hX6, hS6⟩ ⟨rfl, rfl, rfl, rfl, rfl, rfl, rfl, rfl, rfl, trivial⟩ rfl ?_
      clear hS6 hX6
      rintro ⟨⟨aR, cR, j⟩, w6⟩ ⟨hj, hX6, hS6⟩
      dsimp only at hj hX6 hS6 ⊢
      have RK6 := (hS6.row (i := 5) rfl).row encI_ok
      have hRR := hS6.row (i := 6) rfl
      have hrl : (restF K p q9 j).length ≤ j := by
        have key : ∀ m, (restF K p q9 m).length ≤ m := by
          intro m
          induction m with
          | zero => exact Nat.le_refl _
          | succ m ih =>
            rw [restF]; split
            · rw [List.length_append]; show _ + 1 ≤ _; omega
            · omega
        exact key j
      by_cases hjl : j < K.length
      · obtain ⟨y, hy⟩ := getI K hjl
        have hst : restF K p q9 (j + 1) = if j ≠ p ∧ j ≠ q9 then restF K p q9 j ++ [y] else restF K p q9 j := by rw [restF, getD_of hy]
        by_cases h1 : j = p
        · rw [if_neg (fun h => h.1 h1)] at hst
          repeat' (first
            | (show WL _ _ _ _ _ _ _; first | apply WL.nil | (refine WL.au (k := ?_)))
            | (show Z _ _ _ _ _; apply Z.then_normal)
            | (show W _ _ _ _ _ _; first | apply W.seq | apply W.region)
            | fail)
          refine W.condKT rfl (dec_true (by omega)) ?_
          repeat' (first
            | (apply WL.gF; exact rfl; exact rfl; (focus (first | exact dec_false (by omega); done)))
            | (show WL _ _ _ _ _ _ _; first | apply WL.nil | (refine WL.au (k := ?_)) | (apply WL.guardF; exact rfl; exact rfl))
            | (show Z _ _ _ _ _; apply Z.then_normal)
            | (show W _ _ _ _ _ _; first | apply W.seq | apply W.region | apply W.block | apply W.skip)
            | fail)
          refine W.condKF rfl (by first | rfl | exact dec_false (by omega)) ?_
          repeat' (first
            | (show WL _ _ _ _ _ _ _; first | apply WL.nil | (refine WL.au (k := ?_)))
            | (show Z _ _ _ _ _; first | apply Z.then_normal | apply Z.block_normal)
            | (show W _ _ _ _ _ _; first | apply W.region | apply W.skip)
            | fail)
          exact Z.again ((aR, cR, j + 1), w6) ⟨by dsimp only; omega, hX6, by dsimp only; rw [hst]; exact hS6⟩ (by dsimp only; omega) (by dsimp only; rw [hst]; exact ⟨rfl, rfl, rfl, rfl, rfl, rfl, rfl, rfl, rfl, trivial⟩) rfl
        by_cases h2 : j = q9
        · rw [if_neg (fun h => h.2 h2)] at hst
          repeat' (first
            | (show WL _ _ _ _ _ _ _; first | apply WL.nil | (refine WL.au (k := ?_)))
            | (show Z _ _ _ _ _; apply Z.then_normal)
            | (show W _ _ _ _ _ _; first | apply W.seq | apply W.region)
            | fail)
          refine W.condKT rfl (dec_true (by omega)) ?_
          repeat' (first
            | (apply WL.gT; exact rfl; exact rfl; (focus (first | exact dec_true (by omega); done)))
            | (show WL _ _ _ _ _ _ _; first | apply WL.nil | (refine WL.au (k := ?_)))
            | (show Z _ _ _ _ _; apply Z.then_normal)
            | (show W _ _ _ _ _ _; first | apply W.seq | apply W.region | apply W.block | apply W.skip)
            | fail)
          refine W.condKF rfl (by first | rfl | exact dec_false (by omega)) ?_
          repeat' (first
            | (show WL _ _ _ _ _ _ _; first | apply WL.nil | (refine WL.au (k := ?_)))
            | (show Z _ _ _ _ _; first | apply Z.then_normal | apply Z.block_normal)
            | (show W _ _ _ _ _ _; first | apply W.region | apply W.skip)
            | fail)
          exact Z.again ((aR, cR, j + 1), w6) ⟨by dsimp only; omega, hX6, by dsimp only; rw [hst]; exact hS6⟩ (by dsimp only; omega) (by dsimp only; rw [hst]; exact ⟨rfl, rfl, rfl, rfl, rfl, rfl, rfl, rfl, rfl, trivial⟩) rfl
        rw [if_pos ⟨h1, h2⟩] at hst
        generalize restF K p q9 j = rj at *
        repeat' (first
          | (show WL _ _ _ _ _ _ _; first | apply WL.nil | (refine WL.au (k := ?_)))
          | (show Z _ _ _ _ _; apply Z.then_normal)
          | (show W _ _ _ _ _ _; first | apply W.seq | apply W.region)
          | fail)
        refine W.condKT rfl (dec_true (by omega)) ?_
        repeat' (first
          | (apply WL.gT; exact rfl; exact rfl; (focus (first | exact dec_true (by omega); done)))
          | (show WL _ _ _ _ _ _ _; first | apply WL.nil | (refine WL.au (k := ?_)))
          | (show Z _ _ _ _ _; apply Z.then_normal)
          | (show W _ _ _ _ _ _; first | apply W.seq | apply W.region | apply W.block | apply W.skip)
          | fail)
        refine W.condKT rfl (by first | rfl | exact dec_true (by omega)) ?_
        repeat' (first
          | (apply WL.lit tOk; exact rfl; exact rfl; exact rfl; exact rfl; exact rfl; exact rfl; (first | exact rfl | kernel_rfl | (simp [Instr.fill, catCells]; done)); exact rfl; intro gb w' hb hge hc hx)
          | (apply WL.append1 (z := (y)) tOk encI_ok; exact rfl; exact rfl; exact rfl; exact rfl; exact rfl; exact rfl; exact rfl; exact rfl; exact rfl; exact rfl; assumption; (exact extA); (first | exact rfl | (focus (simp only [List.length_set]; done)) | (focus (simp; done)) | (focus (simp [*]; done)) | omega | (focus (simp only [List.length_set]; omega))); (first | assumption | (refine Cells.ext ?_ (by assumption); exact extA)); exact rfl; exact rfl; (exact extA); (first | omega | (simp; omega) | (simp at *; omega)); intro a' cap' w' hO hX' hU hF)
          | (show WL _ _ _ _ _ _ _; first | apply WL.nil | (refine WL.au (k := ?_)) | (apply WL.index tOk; exact rfl; exact rfl; exact rfl; exact rfl; exact rfl; exact rfl; exact rfl; exact rfl; assumption; (exact extA); exact rfl; omega; assumption; intro b off h; have hcc := h; first | (obtain ⟨h1, h2, h3, h4, h5, h6, _⟩ := h) | (obtain ⟨h1, h2, h3, _⟩ := h) | (obtain ⟨h1, h2, _⟩ := h) | (obtain ⟨h1, _⟩ := h)))
          | (show Z _ _ _ _ _; first | apply Z.then_normal | apply Z.block_normal)
          | (show W _ _ _ _ _ _; apply W.region)
          | fail)
        have hS7 := Sep.updRow (i := 6) rfl hU hO hF (Sep.ext hS6 (by (exact extA))) (Ext.refl _) (Below.size (show Ext w0 _ from (by (exact extA))))
        exact Z.again ((a', cap', j + 1), w') ⟨by dsimp only; omega, (show Ext w0 w' from (by (exact extA))), by dsimp only; rw [hst]; exact hS7⟩ (by dsimp only; omega) (by dsimp only; rw [hst]; exact ⟨rfl, rfl, rfl, rfl, rfl, rfl, rfl, rfl, rfl, trivial⟩) rfl
      obtain rfl : j = K.length := by omega
      rw [hre] at hS6 hRR hrl ⊢
      repeat' (first
        | (show WL _ _ _ _ _ _ _; first | apply WL.nil | (refine WL.au (k := ?_)))
        | (show Z _ _ _ _ _; apply Z.then_normal)
        | (show W _ _ _ _ _ _; first | apply W.seq | apply W.region)
        | fail)
      refine W.condKF rfl (dec_false (by omega)) ?_
      repeat' (first
        | (apply WL.lit tOk; exact rfl; exact rfl; exact rfl; exact rfl; exact rfl; exact rfl; (first | exact rfl | kernel_rfl | (simp [Instr.fill, catCells]; done)); exact rfl; intro gb w' hb hge hc hx)
        | (apply WL.append1 (z := ((mrgA N K).1)) tOk encI_ok; exact rfl; exact rfl; exact rfl; exact rfl; exact rfl; exact rfl; exact rfl; exact rfl; exact rfl; exact rfl; assumption; (exact extA); (first | exact rfl | (focus (simp only [List.length_set]; done)) | (focus (simp; done)) | (focus (simp [*]; done)) | omega | (focus (simp only [List.length_set]; omega))); (first | assumption | (refine Cells.ext ?_ (by assumption); exact extA)); exact rfl; exact rfl; (exact extA); (first | omega | (simp; omega) | (simp at *; omega)); intro a' cap' w' hO hX' hU hF)
        | (show WL _ _ _ _ _ _ _; first | apply WL.nil | (refine WL.au (k := ?_)))
        | (show Z _ _ _ _ _; first | apply Z.then_normal | apply Z.block_normal | apply Z.then_exit | apply Z.block_exit)
        | (show W _ _ _ _ _ _; first | apply W.region | apply W.exit)
        | fail)
      have hS7 := Sep.dropMid (A := [_, _, _, _, _]) (Sep.updRow (i := 6) rfl hU hO hF (Sep.ext hS6 (by (exact extA))) (Ext.refl _) (Below.size (show Ext w0 _ from (by (exact extA)))))
      have hAl2 : (mrgR N K ++ [(mrgA N K).1]).length = K.length - 1 := by rw [List.length_append, hml]; show K.length - 2 + 1 = _; omega
      refine Z.again ((a', cap', mrgR N K ++ [(mrgA N K).1], (mrgA N K).2, f), w') ⟨hE, by dsimp only; omega, by dsimp only; omega, hAt, by dsimp only; omega, fun z hz => ?_, (show Ext w0 w' from (by (exact extA))), a7, c7, hS7⟩ (by dsimp only; omega) ⟨rfl, rfl, rfl, rfl, trivial⟩ rfl
      rcases List.mem_append.1 hz with h | h
      · exact hasL_mono (hL z (hm.2.2 z h)) hAl.1
      · rw [List.mem_singleton.1 h]; exact hAh
    have h1 : K.length = 1 := by omega
    obtain ⟨y, hy0⟩ := getI K (show 0 < K.length by omega)
    have hE2 : tot = (y, N) := by
      rw [hE]
      cases f with
      | zero => rw [allB, getD_of hy0]
      | succ f => rw [allB, if_pos (by omega), getD_of hy0]
    rw [hE2] at hput hAok hAs ⊢
    clear hE hE2
    have hyh : hasL N y := hAok.has
    have hNs : N.length ≤ 10201 := hAs
    unfold hasL at hyh
    have hy0' : K[((0 : Int)).toNat]? = some y := hy0
    obtain ⟨gW, rfl⟩ := Own.some' (hS3.row (i := 3) rfl) (show 1 ≤ q.2.O.length by omega)
    have hOw := hS3.row (i := 3) rfl
    obtain ⟨zo, hzo⟩ := getI q.2.O hOl
    have hset : (q.2.O.set (l / 2).toNat y)[(l / 2).toNat]? = some y := List.getElem?_set_self hOl
    repeat' (first
      | (show WL _ _ _ _ _ _ _; first | apply WL.nil | (refine WL.au (k := ?_)))
      | (show Z _ _ _ _ _; apply Z.then_normal)
      | (show W _ _ _ _ _ _; first | apply W.seq | apply W.region)
      | fail)
    refine W.condKF rfl (dec_false (by omega)) ?_
    repeat' (first
      | (apply FL.nilc; exact rfl; exact rfl; exact rfl)
      | (show W _ _ (.region 20 _ _) _ _ _; apply W.regionG (.fl true 0 (.fl true 1 (.fl true 2 (.fl true 4 (.fl true 5 (.fl true 6 (.fl false 3 (.fl false 7 (.br 8 (.br 9 .done .stop) .stop))))))))) [7] (Ext w3) tMix; kernel_rfl)
      | (apply WL.indexO tOk; exact rfl; exact rfl; exact rfl; exact rfl; exact rfl; exact rfl; exact rfl; exact rfl; assumption; (exact extA); exact encI_ok; (first | exact rfl | (focus (simp only [List.length_set]; done)) | (focus (simp; done)) | (focus (simp [*]; done)) | omega | (focus (simp only [List.length_set]; omega))); omega; assumption; intro gb ha hc; cases ha; have hcc := hc; first | (obtain ⟨h1, h2, h3, _⟩ := hc) | (obtain ⟨h1, h2, _⟩ := hc) | (obtain ⟨h1, _⟩ := hc))
      | (apply WL.storeO (z' := (y)) tOk; exact rfl; exact rfl; exact rfl; exact rfl; assumption; (exact extA); exact rfl; exact rfl; exact rfl; exact encI_ok; assumption; exact rfl; (exact extA); intro w' hO hX' hU; (obtain ⟨w4, rfl⟩ : ∃ x, x = w' := ⟨_, rfl⟩))
      | (show WL _ _ _ _ _ _ _; first | apply WL.nil | (refine WL.au (k := ?_)))
      | (show SG _ _ _ _ _ _ _ _ _; first | apply SG.done | (apply SG.fl0; exact rfl) | (apply SG.fl1; exact rfl; (focus ((intro m; first | assumption | (apply Ext.at; (exact extA)) | apply But.of_at; first | exact But.upd (by assumption) | exact But.ext (by (exact extA)) | (refine But.trans ?_ (But.upd (by assumption)); exact But.ext (by (exact extA))) | exact But.at _ _ _); done))) | (apply SG.br1; exact rfl))
      | (show FL _ _ _ _ _ _ _ _; first | (apply FL.loadE tOk; exact rfl; exact rfl; exact rfl; exact rfl; exact rfl; assumption) | (apply FL.indexE tOk; exact rfl; exact rfl; exact rfl; exact rfl; exact rfl; exact rfl; exact rfl; exact rfl; assumption; exact rfl; omega; assumption; intro b off h; have hcc := h; first | (obtain ⟨h1, h2, h3, h4, h5, h6, _⟩ := h) | (obtain ⟨h1, h2, h3, _⟩ := h) | (obtain ⟨h1, h2, _⟩ := h) | (obtain ⟨h1, _⟩ := h)))
      | (show FL _ _ _ _ _ _ _ _; first | apply FL.nilS | (refine FL.au (k := ?_)))
      | (show Z _ _ _ _ _; (apply Z.sgL; exact rfl))
      | (show Z _ _ _ _ _; first | apply Z.then_normal | apply Z.then_exit | apply Z.block_exit)
      | (show W _ _ _ _ _ _; first | apply W.seq | apply W.region | apply W.exit)
      | fail)
    have hX4 : Ext w0 w4 := (by (exact extA))
    have hS4 := Sep.updRow (i := 3) rfl hU hO (.inl rfl) hS3 (by (exact extA)) (Below.size hX3)
    have hS5 : Lt.Sep w0.heap.size w4 (rbP n outs na oa nc oc gs gB w0.heap.size a3 cap3 (some ⟨gW, 0, none⟩) wc3 ⟨N, q.2.O.set (l / 2).toNat y⟩ ++ rest) := by
      have := Sep.dropMid (A := [_, _, _, _]) (Sep.dropMid (A := [_, _, _, _]) hS4)
      have e : (q.2.O.set (l / 2).toNat y).length = q.2.O.length := List.length_set
      show Lt.Sep w0.heap.size w4 ([_, _, pcell gB #[.slice na n.length nc, .slice oa outs.length oc, .pointer (some ⟨gs, 0, none⟩), .slice (some ⟨gW, 0, none⟩) (q.2.O.set (l / 2).toNat y).length wc3] 124, _] ++ rest)
      rw [e]
      exact this
    have RO9 := (hS5.row (i := 3) rfl).row encI_ok
    obtain ⟨k0, k1, k2, k3, _⟩ := cells_heap (hS5.cell (i := 2) rfl)
    clear hO hU hcc h1 n0 n1 n2 n3
    skip
    by_cases hp : l % 2 = 1
    · refine W.condKT rfl (dec_true hp) ?_
      repeat' (first
        | (apply WL.nilc; exact rfl; exact rfl; exact rfl)
        | ((show WL _ _ _ (⟨_, .call ⟨.value (.func 105), _, _⟩, _, _, _, _⟩ :: _) _ _ _); apply WL.callS; exact rfl; exact rfl; exact rfl; exact rfl; exact rs_Not y _ (by omega))
        | (show WL _ _ _ _ _ _ _; first | apply WL.nil | (refine WL.au (k := ?_)) | (apply WL.index tOk; exact rfl; exact rfl; exact rfl; exact rfl; exact rfl; exact rfl; exact rfl; exact rfl; assumption; (exact extA); exact rfl; omega; assumption; intro b off h; have hcc := h; first | (obtain ⟨h1, h2, h3, h4, h5, h6, _⟩ := h) | (obtain ⟨h1, h2, h3, _⟩ := h) | (obtain ⟨h1, h2, _⟩ := h) | (obtain ⟨h1, _⟩ := h)))
        | (show Z _ _ _ _ _; first | apply Z.then_normal | apply Z.then_ret)
        | (show W _ _ _ _ _ _; first | apply W.seq | apply W.region | apply W.ret)
        | fail)
      exact Z.body1 Try.results109 rfl fun m => ⟨by rw [negB_odd hyh.1 hp], hX4.at m, a3, cap3, _, wc3, Sep.ext hS5 ((Ext.refl _).at m)⟩
    · refine W.condKF rfl (dec_false hp) ?_
      repeat' (first
        | (apply WL.nilc; exact rfl; exact rfl; exact rfl)
        | (show WL _ _ _ _ _ _ _; first | apply WL.nil | (refine WL.au (k := ?_)) | (apply WL.index tOk; exact rfl; exact rfl; exact rfl; exact rfl; exact rfl; exact rfl; exact rfl; exact rfl; assumption; (exact extA); exact rfl; omega; assumption; intro b off h; have hcc := h; first | (obtain ⟨h1, h2, h3, h4, h5, h6, _⟩ := h) | (obtain ⟨h1, h2, h3, _⟩ := h) | (obtain ⟨h1, h2, _⟩ := h) | (obtain ⟨h1, _⟩ := h)))
        | (show Z _ _ _ _ _; apply Z.then_normal)
        | (show W _ _ _ _ _ _; first | apply W.seq | apply W.region | apply W.skip | apply W.ret)
        | fail)
      exact Z.body1 Try.results109 rfl fun m => ⟨by rw [← negB_even hp], hX4.at m, a3, cap3, _, wc3, Sep.ext hS5 ((Ext.refl _).at m)⟩
end
end Go.Proofs.Ythpnahapiodflaa
namespace Go.Proofs.Ythpnahapiodflaa
open Go Go.Lt Go.RowKit
set_option linter.unusedVariables false
set_option linter.unusedSimpArgs false
set_option maxRecDepth 20000

set_option maxHeartbeats 16000000 in
theorem ref48_Balance (na oa : Option Addr) (nc oc : Nat) (n : List (Int × Int)) (outs : List Int) (w0 : World) (Rn : Row 2 encN w0 na n) (Ro : Row 1 encI w0 oa outs) (hg : GoodNet n) (hn : n.length ≤ 100) (hol : outs.length ≤ 1000) (ho : ∀ l ∈ outs, 0 ≤ l ∧ l ≤ 2 * (n.length : Int) + 1) :
    Lt.Spec Try.prog 46 [.slice na n.length nc, .slice oa outs.length oc] w0 (fun v w' => Ext w0 w' ∧ ∃ ma mc ta tc, v = .tuple #[.slice ma (balV n outs).2.N.length mc, .slice ta (balV n outs).1.length tc] ∧ Row 2 encN w' ma (balV n outs).2.N ∧ Row 1 encI w' ta (balV n outs).1 ∧ (ma = none → mc = 0) ∧ (ta = none → tc = 0)) := by
  refine Spec.of _ Try.func46 rfl Try.ntmps46 (by kernel_rfl) rfl ?_
  repeat' (first
    | (apply WL.build tOk; exact rfl; exact rfl; exact rfl; exact rfl; exact rfl; exact rfl; exact rfl; kernel_rfl)
    | ((show WL _ _ _ (⟨some 13, .box _ _, _, _, _, _⟩ :: _) _ _ _; apply WL.box; exact rfl; exact rfl; exact rfl; intro gs w1 hb1 hge1 _ hx1))
    | (show WL _ _ _ _ _ _ _; first | apply WL.nil | (refine WL.au (k := ?_)))
    | (show Z _ _ _ _ _; apply Z.then_normal)
    | (show W _ _ _ _ _ _; first | apply W.seq | apply W.region)
    | fail)
  have hb1' : CellC gs #[.slice none ([] : List (Int × Int)).length 0] 58 w1 := hb1.trans (by kernel_rfl)
  have hS1 := Sep.newCell Sep.none' hx1 hb1' hge1 (Nat.le_refl _)
  repeat' (first
    | (apply WL.lit tOk; exact rfl; exact rfl; exact rfl; exact rfl; exact rfl; exact rfl; (first | exact rfl | kernel_rfl | (simp [Instr.fill, catCells]; done)); exact rfl; intro gb w' hb hge hc hx; have hO := Own.of_block ([(0 : Int)]) encI_ok hb hge rfl; (obtain ⟨gO, rfl⟩ : ∃ x, x = gb := ⟨_, rfl⟩; obtain ⟨w2, rfl⟩ : ∃ x, x = w' := ⟨_, rfl⟩; obtain ⟨hx2, rfl⟩ : ∃ x, x = hx := ⟨_, rfl⟩; obtain ⟨hO2, rfl⟩ : ∃ x, x = hO := ⟨_, rfl⟩))
    | fail)
  have hS2 := Sep.newRow' hS1 hx2 hO2 (Below.size hx1)
  have hX2 : Ext w0 w2 := hx1.trans hx2
  repeat' (first
    | (apply WL.build tOk; exact rfl; exact rfl; exact rfl; exact rfl; exact rfl; exact rfl; exact rfl; kernel_rfl)
    | ((show WL _ _ _ (⟨some 16, .box _ _, _, _, _, _⟩ :: _) _ _ _; apply WL.box; exact rfl; exact rfl; exact rfl; intro gB w3 hb3 hge3 _ hx3))
    | (show WL _ _ _ _ _ _ _; first | apply WL.nil | (refine WL.au (k := ?_)))
    | (show Z _ _ _ _ _; apply Z.then_normal)
    | (show W _ _ _ _ _ _; first | apply W.seq | apply W.region | apply W.block)
    | fail)
  have hb3' : CellC gB #[.slice na n.length nc, .slice oa outs.length oc, .pointer (some ⟨gs, 0, none⟩), .slice (some ⟨gO, 0, none⟩) ([0] : List Int).length 1] 124 w3 := hb3.trans (by kernel_rfl)
  have hS3 := Sep.newRow (s := 2) (enc := encN) (el := 104) (a := none) (cap := 0) (l := []) (Sep.newCell hS2 hx3 hb3' hge3 (Below.size hX2)) (Ext.refl _) Own.nil (fun k hk => by cases hk) (Below.size (hX2.trans hx3))
  have hX3 : Ext w0 w3 := hX2.trans hx3
  have hS4 : Lt.Sep w0.heap.size w3 (rbP n outs na oa nc oc gs gB w0.heap.size none 0 (some ⟨gO, 0, none⟩) 1 ⟨List.replicate (cnt n 0) (-1, 0), iniO n 0⟩ ++ []) := Sep.ofPerm (by repeat' (first | exact List.Perm.refl _ | (refine List.Perm.cons _ ?_) | (refine List.Perm.trans (List.Perm.swap _ _ _) (List.Perm.cons _ ?_)) | (refine List.Perm.trans (List.perm_middle (l₁ := [_, _])) (List.Perm.cons _ ?_)) | (refine List.Perm.trans (List.perm_middle (l₁ := [_, _, _])) (List.Perm.cons _ ?_)) | (refine List.Perm.trans (List.perm_middle (l₁ := [_, _, _, _])) (List.Perm.cons _ ?_)) | (refine List.Perm.trans (List.perm_middle (l₁ := [_, _, _, _, _])) (List.Perm.cons _ ?_)) | (refine List.Perm.trans (List.perm_middle (l₁ := [_, _, _, _, _, _])) (List.Perm.cons _ ?_)) | (refine List.Perm.trans (List.perm_middle (l₁ := [_, _, _, _, _, _, _])) (List.Perm.cons _ ?_)) | (refine List.Perm.trans (List.perm_middle (l₁ := [_, _, _, _, _, _, _, _])) (List.Perm.cons _ ?_)))) hS3
  have hA0 : RBAt n outs na oa nc oc gs gB w0 ⟨List.replicate (cnt n 0) (-1, 0), iniO n 0⟩ [] w3 := ⟨hX3, none, 0, some ⟨gO, 0, none⟩, 1, hS4⟩
  clear hS4 hS3 hS2 hS1 hX3 hX2 hb1 hb3 hb1' hb3' hb hc hO2 hx3 hx2 hx1
  skip
  refine W.loopW n.length (fun i w' => i ≤ n.length ∧ RBAt n outs na oa nc oc gs gB w0 ⟨List.replicate (cnt n i) (-1, 0), iniO n i⟩ [] w') (fun i => [(0, .slice na n.length nc), (1, .slice oa outs.length oc), (6, .pointer (some ⟨gB, 0, none⟩)), (7, .int .i64 i)]) ⟨Nat.zero_le _, hA0⟩ (fun k w' h => h.1) ⟨rfl, rfl, rfl, rfl, trivial⟩ ?_
  clear hA0
  rintro i w3 ⟨hi, hX3, a, cap, ow, wc, hS3⟩
  have hcl := cnt_le n i
  have hrl : (List.replicate (cnt n i) ((-1, 0) : Int × Int)).length = cnt n i := List.length_replicate
  have hil := iniO_len n i
  have hC3 : CellC gB #[.slice na n.length nc, .slice oa outs.length oc, .pointer (some ⟨gs, 0, none⟩), .slice ow (iniO n i).length wc] 124 w3 := hS3.cell (i := 2) rfl
  have hO3 := hS3.row (i := 3) rfl
  have hz9 := (hS3.lt (i := 2) rfl rfl).1
  obtain ⟨n0, n1, n2, n3, _⟩ := cells_heap hC3
  by_cases hlt : i < n.length
  · obtain ⟨x, hx⟩ := getI n hlt
    have Rn3 := Rn.ext hX3
    have hd : iniO n (i + 1) = iniO n i ++ [if x.1 < 0 then 2 * ((cnt n i : Int) + 1) else -1] := by rw [iniO, getD_of hx]
    repeat' (first
      | (show WL _ _ _ _ _ _ _; first | apply WL.nil | (refine WL.au (k := ?_)))
      | (show Z _ _ _ _ _; apply Z.then_normal)
      | (show W _ _ _ _ _ _; first | apply W.seq | apply W.region)
      | fail)
    refine W.condKT rfl (dec_true (by omega)) ?_
    repeat' (first
      | (show WL _ _ _ _ _ _ _; first | apply WL.nil | (refine WL.au (k := ?_)) | (apply WL.index tOk; exact rfl; exact rfl; exact rfl; exact rfl; exact rfl; exact rfl; exact rfl; exact rfl; assumption; (exact extA); exact rfl; omega; assumption; intro b off h; have hcc := h; first | (obtain ⟨h1, h2, h3, h4, h5, h6, _⟩ := h) | (obtain ⟨h1, h2, h3, _⟩ := h) | (obtain ⟨h1, h2, _⟩ := h) | (obtain ⟨h1, _⟩ := h)))
      | (show Z _ _ _ _ _; apply Z.then_normal)
      | (show W _ _ _ _ _ _; first | apply W.seq | apply W.region | apply W.block | apply W.skip)
      | fail)
    by_cases hin : x.1 < 0
    · rw [if_pos hin] at hd
      have hcn := bcnt_in hx hin
      refine W.condKT rfl (dec_true hin) ?_
      repeat' (first
        | (apply FL.nilc; exact rfl; exact rfl; exact rfl)
        | (show W _ _ (.region 6 _ _) _ _ _; apply W.regionG (.fl true 0 (.fl true 1 (.fl true 2 (.fl true 3 (.fl true 5 (.fl true 6 (.fl true 7 (.fl false 4 (.fl false 8 (.br 9 (.br 10 (.br 11 (.fl true 12 (.fl true 13 (.br 14 .done .stop))) .stop) .stop) .stop)))))))))) [8, 9, 10, 11] (CellC gB #[.slice na n.length nc, .slice oa outs.length oc, .pointer (some ⟨gs, 0, none⟩), .slice ow (iniO n i).length wc] 124) tMix; kernel_rfl)
        | (((show WL _ _ _ (⟨_, .call ⟨.value (.func 107), _, _⟩, _, _, _, _⟩ :: _) _ _ _); apply WL.call; exact rfl; exact rfl; exact rfl; exact rfl; exact rs_Input gs cap a (List.replicate (cnt n i) (-1, 0)) ([pcell gB #[.slice na n.length nc, .slice oa outs.length oc, .pointer (some ⟨gs, 0, none⟩), .slice ow (iniO n i).length wc] 124, prow 1 encI 3 w0.heap.size ow wc (iniO n i)] ++ []) _ w0 hX3 hS3 (by omega); rw [hrl]; rintro v' w4 ⟨hX4, a4, cap4, rfl, hS4⟩; have hC4 : CellC gB #[.slice na n.length nc, .slice oa outs.length oc, .pointer (some ⟨gs, 0, none⟩), .slice ow (iniO n i).length wc] 124 w4 := hS4.cell (i := 2) rfl; have hO4 := hS4.row (i := 3) rfl))
        | (apply WL.lit tOk; exact rfl; exact rfl; exact rfl; exact rfl; exact rfl; exact rfl; (first | exact rfl | kernel_rfl | (simp [Instr.fill, catCells]; done)); exact rfl; intro gb w' hb hge hc hx; (obtain ⟨wL, rfl⟩ : ∃ x, x = w' := ⟨_, rfl⟩; have hCL := Ext.heap (show Ext w4 wL from (by (exact extA))) hC4))
        | (apply WL.append1 (z := (2 * ((cnt n i : Int) + 1))) tOk encI_ok; exact rfl; exact rfl; exact rfl; exact rfl; exact rfl; exact rfl; exact rfl; exact rfl; exact rfl; exact rfl; assumption; (exact extA); (first | exact rfl | (focus (simp only [List.length_set]; done)) | (focus (simp; done)) | (focus (simp [*]; done)) | omega | (focus (simp only [List.length_set]; omega))); (first | assumption | (refine Cells.ext ?_ (by assumption); exact extA)); exact rfl; exact rfl; (exact extA); (first | omega | (simp; omega) | (simp at *; omega)); intro a' cap' w' hO hX' hU hF; (obtain ⟨a5, rfl⟩ : ∃ x, x = a' := ⟨_, rfl⟩; obtain ⟨c5, rfl⟩ : ∃ x, x = cap' := ⟨_, rfl⟩; obtain ⟨w5, rfl⟩ : ∃ x, x = w' := ⟨_, rfl⟩; have hS5 := Sep.updRow (i := 3) rfl hU hO hF (Sep.ext hS4 (show Ext w4 wL from (by (exact extA)))) (Ext.refl _) (Below.size (show Ext w0 _ from (by (exact extA)))); have hC9 : CellC gB #[.slice na n.length nc, .slice oa outs.length oc, .pointer (some ⟨gs, 0, none⟩), .slice ow (iniO n i).length wc] 124 w5 := hS5.cell (i := 2) rfl))
        | ((apply WL.storeF (w0 := w0) tOk; exact rfl; exact rfl; exact rfl; exact rfl; exact hC9; exact (by (exact extA)); exact rfl; exact rfl; exact rfl; exact rfl; exact (by (exact extA)); exact hz9; intro w9 hb9 hX9 hU9))
        | (show WL _ _ _ _ _ _ _; first | apply WL.nil | (refine WL.au (k := ?_)))
        | (show SG _ _ _ _ _ _ _ _ _; first | apply SG.done | (apply SG.fl0; exact rfl) | (apply SG.fl1; exact rfl; (focus ((intro m; first | assumption | (apply Ext.at; (exact extA)) | apply But.of_at; first | exact But.upd (by assumption) | exact But.ext (by (exact extA)) | (refine But.trans ?_ (But.upd (by assumption)); exact But.ext (by (exact extA))) | exact But.at _ _ _); done))) | (apply SG.br1; exact rfl))
        | (show FL _ _ _ _ _ _ _ _; (apply FL.loadC tOk; exact rfl; exact rfl; exact rfl; exact rfl; exact rfl; exact rfl))
        | (show FL _ _ _ _ _ _ _ _; first | apply FL.nilS | (refine FL.au (k := ?_)))
        | (show Z _ _ _ _ _; first | (apply Z.sgL; exact rfl) | (apply Z.sgE; (focus ((intro m; first | assumption | (apply Ext.at; (exact extA)) | apply But.of_at; first | exact But.upd (by assumption) | exact But.ext (by (exact extA)) | (refine But.trans ?_ (But.upd (by assumption)); exact But.ext (by (exact extA))) | exact But.at _ _ _); done))))
        | (show Z _ _ _ _ _; first | apply Z.then_normal | apply Z.block_normal)
        | (show W _ _ _ _ _ _; apply W.region)
        | fail)
      all_goals
        have hb9' : CellC gB #[.slice na n.length nc, .slice oa outs.length oc, .pointer (some ⟨gs, 0, none⟩), .slice a5 (iniO n i ++ [2 * ((cnt n i : Int) + 1)]).length c5] 124 w9 := hb9
        have hS9 := Sep.updCell (i := 2) rfl hU9 hb9' hS5 (Ext.refl _) (Below.size (show Ext w0 w5 from (by (exact extA))))
        exact Z.againW ⟨by omega, hX9, a4, cap4, a5, c5, by rw [hcn, hd, List.replicate_succ']; exact hS9⟩ ⟨rfl, rfl, rfl, rfl, trivial⟩
    · rw [if_neg hin] at hd
      have hcn := bcnt_gate hx (show 0 ≤ x.1 by omega)
      refine W.condKF rfl (dec_false hin) ?_
      repeat' (first
        | (apply WL.nilc; exact rfl; exact rfl; exact rfl)
        | (apply WL.lit tOk; exact rfl; exact rfl; exact rfl; exact rfl; exact rfl; exact rfl; (first | exact rfl | kernel_rfl | (simp [Instr.fill, catCells]; done)); exact rfl; intro gb w' hb hge hc hx)
        | (apply WL.append1 (z := (-1)) tOk encI_ok; exact rfl; exact rfl; exact rfl; exact rfl; exact rfl; exact rfl; exact rfl; exact rfl; exact rfl; exact rfl; assumption; (exact extA); (first | exact rfl | (focus (simp only [List.length_set]; done)) | (focus (simp; done)) | (focus (simp [*]; done)) | omega | (focus (simp only [List.length_set]; omega))); (first | assumption | (refine Cells.ext ?_ (by assumption); exact extA)); exact rfl; exact rfl; (exact extA); (first | omega | (simp; omega) | (simp at *; omega)); intro a' cap' w' hO hX' hU hF; (obtain ⟨a5, rfl⟩ : ∃ x, x = a' := ⟨_, rfl⟩; obtain ⟨c5, rfl⟩ : ∃ x, x = cap' := ⟨_, rfl⟩; obtain ⟨w5, rfl⟩ : ∃ x, x = w' := ⟨_, rfl⟩; have hS5 := Sep.updRow (i := 3) rfl hU hO hF (Sep.ext hS3 (show Ext w3 _ from (by (exact extA)))) (Ext.refl _) (Below.size (show Ext w0 _ from (by (exact extA)))); have hC9 : CellC gB #[.slice na n.length nc, .slice oa outs.length oc, .pointer (some ⟨gs, 0, none⟩), .slice ow (iniO n i).length wc] 124 w5 := hS5.cell (i := 2) rfl))
        | ((apply WL.storeF (w0 := w0) tOk; exact rfl; exact rfl; exact rfl; exact rfl; exact hC9; exact (by (exact extA)); exact rfl; exact rfl; exact rfl; exact rfl; exact (by (exact extA)); exact hz9; intro w9 hb9 hX9 hU9))
        | (show WL _ _ _ _ _ _ _; first | apply WL.nil | (refine WL.au (k := ?_)))
        | (show Z _ _ _ _ _; first | apply Z.then_normal | apply Z.block_normal)
        | (show W _ _ _ _ _ _; apply W.region)
        | fail)
      all_goals
        have hb9' : CellC gB #[.slice na n.length nc, .slice oa outs.length oc, .pointer (some ⟨gs, 0, none⟩), .slice a5 (iniO n i ++ [(-1 : Int)]).length c5] 124 w9 := hb9
        have hS9 := Sep.updCell (i := 2) rfl hU9 hb9' hS5 (Ext.refl _) (Below.size (show Ext w0 w5 from (by (exact extA))))
        exact Z.againW ⟨by omega, hX9, a, cap, a5, c5, by rw [hcn, hd]; exact hS9⟩ ⟨rfl, rfl, rfl, rfl, trivial⟩
  obtain rfl : i = n.length := by omega
  have hbk := bal_ok hg ho
  have hpc := fun (s : BSt) (l : Int) (rest : List Piece) (w9 : World) (h1 : BOk n s) (h2 : l ∈ outs) (h3 : RBAt n outs na oa nc oc gs gB w0 s rest w9) => ref48_put hg hn hol ho w0 Rn Ro n.length s l rest w9 h1 (ho l h2).1 (by have := (ho l h2).2; omega) (by have := (ho l h2).2; omega) h3
  have hbal : balV n outs = putsTo (putF n (usesV n outs) (n.length + 1)) (iniS n) outs outs.length := rfl
  rw [hbal]
  generalize putF n (usesV n outs) (n.length + 1) = put at *
  repeat' (first
    | (show WL _ _ _ _ _ _ _; first | apply WL.nil | (refine WL.au (k := ?_)))
    | (show Z _ _ _ _ _; apply Z.then_normal)
    | (show W _ _ _ _ _ _; first | apply W.seq | apply W.region)
    | fail)
  refine W.condKF rfl (dec_false (by omega)) ?_
  repeat' (first
    | (apply WL.lit (len := 0) tOk; exact rfl; exact rfl; exact rfl; exact rfl; exact rfl; exact rfl; (first | exact rfl | kernel_rfl | (simp [Instr.fill, catCells]; done)); exact rfl; intro gb w' hb hge hc hx; have hO0 := Own.of_block0 (enc := encI) (s := 1) hb hge; (obtain ⟨gT, rfl⟩ : ∃ x, x = gb := ⟨_, rfl⟩; obtain ⟨w4, rfl⟩ : ∃ x, x = w' := ⟨_, rfl⟩; obtain ⟨hx4, rfl⟩ : ∃ x, x = hx := ⟨_, rfl⟩; obtain ⟨hOT, rfl⟩ : ∃ x, x = hO0 := ⟨_, rfl⟩))
    | (show WL _ _ _ _ _ _ _; first | apply WL.nil | (refine WL.au (k := ?_)))
    | (show Z _ _ _ _ _; first | apply Z.then_normal | apply Z.then_exit | apply Z.block_exit)
    | (show W _ _ _ _ _ _; first | apply W.seq | apply W.region | apply W.block | apply W.exit)
    | fail)
  have hX4 : Ext w0 w4 := hX3.trans hx4
  have hS4 := Sep.putMid (A := [_, _, _, _]) (C := []) (Sep.newRow' hS3 hx4 hOT (Below.size hX3))
  have hA4 : RBAt n outs na oa nc oc gs gB w0 (iniS n) [prow 1 encI 3 w0.heap.size (some ⟨gT, 0, none⟩) 0 []] w4 := ⟨hX4, a, cap, ow, wc, hS4⟩
  refine W.loop (σ := (Option Addr × Nat × Nat) × World) (fun s9 => s9.1.2.2 ≤ outs.length ∧ RBAt n outs na oa nc oc gs gB w0 (putsTo put (iniS n) outs s9.1.2.2).2 [prow 1 encI 3 w0.heap.size s9.1.1 s9.1.2.1 (putsTo put (iniS n) outs s9.1.2.2).1] s9.2) (fun s9 => [(1, .slice oa outs.length oc), (6, .pointer (some ⟨gB, 0, none⟩)), (8, .slice s9.1.1 (putsTo put (iniS n) outs s9.1.2.2).1.length s9.1.2.1), (9, .int .i64 s9.1.2.2)]) (fun s9 => s9.2) (fun s9 => outs.length - s9.1.2.2) ((some ⟨gT, 0, none⟩, 0, 0), w4) ⟨Nat.zero_le _, hA4⟩ ⟨rfl, rfl, rfl, rfl, trivial⟩ rfl ?_
  clear hA4 hS4 hS3 hX3 hC3 hO3 n0 n1 n2 n3 hOT
  rintro ⟨⟨aA, cA, k⟩, w3⟩ ⟨hk, hA3⟩
  dsimp only at hk hA3 ⊢
  have hqk := hbk k hk
  have hA3' := hA3
  obtain ⟨hX3, a3, cap3, ow3, wc3, hS3⟩ := hA3'
  have Ro3 := Ro.ext hX3
  by_cases hlt : k < outs.length
  · obtain ⟨z, hz⟩ := getI outs hlt
    have hzm := List.mem_of_getElem? hz
    have hst := putsTo_succ (put := put) (s := iniS n) hz
    have hql := hqk.len
    have hqo := hqk.ok
    obtain ⟨q, hqe⟩ : ∃ q, putsTo put (iniS n) outs k = q := ⟨_, rfl⟩
    rw [hqe] at hst hqo hql hA3 ⊢
    repeat' (first
      | (show WL _ _ _ _ _ _ _; first | apply WL.nil | (refine WL.au (k := ?_)))
      | (show Z _ _ _ _ _; apply Z.then_normal)
      | (show W _ _ _ _ _ _; first | apply W.seq | apply W.region)
      | fail)
    refine W.condKT rfl (dec_true (by omega)) ?_
    repeat' (first
      | (((show WL _ _ _ (⟨_, .call ⟨.value (.func 109), _, _⟩, _, _, _, _⟩ :: _) _ _ _); apply WL.call; exact rfl; exact rfl; exact rfl; exact rfl; exact hpc q.2 z _ w3 hqo hzm hA3; rintro v' w4 ⟨rfl, hX4, a4, cap4, ow4, wc4, hS4⟩; have hRA := hS4.row (i := 4) rfl))
      | (apply WL.lit tOk; exact rfl; exact rfl; exact rfl; exact rfl; exact rfl; exact rfl; (first | exact rfl | kernel_rfl | (simp [Instr.fill, catCells]; done)); exact rfl; intro gb w' hb hge hc hx)
      | (apply WL.append1 (z := ((put q.2 z).1)) tOk encI_ok; exact rfl; exact rfl; exact rfl; exact rfl; exact rfl; exact rfl; exact rfl; exact rfl; exact rfl; exact rfl; assumption; (exact extA); (first | exact rfl | (focus (simp only [List.length_set]; done)) | (focus (simp; done)) | (focus (simp [*]; done)) | omega | (focus (simp only [List.length_set]; omega))); (first | assumption | (refine Cells.ext ?_ (by assumption); exact extA)); exact rfl; exact rfl; (exact extA); (first | omega | (simp; omega) | (simp at *; omega)); intro a' cap' w' hO hX' hU hF)
      | (show WL _ _ _ _ _ _ _; first | apply WL.nil | (refine WL.au (k := ?_)) | (apply WL.index tOk; exact rfl; exact rfl; exact rfl; exact rfl; exact rfl; exact rfl; exact rfl; exact rfl; assumption; (exact extA); exact rfl; omega; assumption; intro b off h; have hcc := h; first | (obtain ⟨h1, h2, h3, h4, h5, h6, _⟩ := h) | (obtain ⟨h1, h2, h3, _⟩ := h) | (obtain ⟨h1, h2, _⟩ := h) | (obtain ⟨h1, _⟩ := h)))
      | (show Z _ _ _ _ _; first | apply Z.then_normal | apply Z.block_normal)
      | (show W _ _ _ _ _ _; first | apply W.seq | apply W.region | apply W.block | apply W.skip)
      | fail)
    have hS5 := Sep.updRow (i := 4) rfl hU hO hF (Sep.ext hS4 (by (exact extA))) (Ext.refl _) (Below.size (show Ext w0 _ from (by (exact extA))))
    exact Z.again ((a', cap', k + 1), w') ⟨by dsimp only; omega, by dsimp only; rw [hst]; exact ⟨(by (exact extA)), a4, cap4, ow4, wc4, hS5⟩⟩ (by dsimp only; omega) (by dsimp only; rw [hst]; exact ⟨rfl, rfl, rfl, rfl, trivial⟩) rfl
  obtain rfl : k = outs.length := by omega
  have hRT := hS3.row (i := 4) rfl
  have hRN := hS3.row (i := 1) rfl
  obtain ⟨k0, _⟩ := cells_heap (hS3.cell (i := 0) rfl)
  obtain ⟨n0, n1, n2, n3, _⟩ := cells_heap (hS3.cell (i := 2) rfl)
  repeat' (first
    | (show WL _ _ _ _ _ _ _; first | apply WL.nil | (refine WL.au (k := ?_)))
    | (show Z _ _ _ _ _; apply Z.then_normal)
    | (show W _ _ _ _ _ _; first | apply W.seq | apply W.region)
    | fail)
  refine W.condKF rfl (dec_false (by omega)) ?_
  repeat' (first
    | (apply WL.nilc; exact rfl; exact rfl; exact rfl)
    | (show WL _ _ _ _ _ _ _; first | apply WL.nil | (refine WL.au (k := ?_)))
    | (show Z _ _ _ _ _; first | apply Z.then_normal | apply Z.then_exit | apply Z.block_exit)
    | (show W _ _ _ _ _ _; first | apply W.seq | apply W.region | apply W.ret | apply W.exit)
    | fail)
  exact Z.body2 Try.results46 rfl rfl fun m => ⟨hX3.at m, a3, cap3, aA, cA, rfl, (hRN.row encN_ok).ext ((Ext.refl _).at m), (hRT.row encI_ok).ext ((Ext.refl _).at m), hRN.noneCap, hRT.noneCap⟩
end Go.Proofs.Ythpnahapiodflaa
namespace Go.Proofs.Ythpnahapiodflaa
open Go Go.Lt Go.RowKit
set_option linter.unusedVariables false
set_option linter.unusedSimpArgs false
set_option maxRecDepth 20000

/-- All literals are of variables of the net. -/
def KnownP (n : List (Int × Int)) (l : List Int) : Prop := ∀ x ∈ l, 0 ≤ x ∧ x ≤ 2 * (n.length : Int) + 1
theorem ref22_Known (a al : Option Addr) (cap cl : Nat) (n : List (Int × Int)) (l : List Int) (w : World) (Rl : Row 1 encI w al l) (hn : n.length ≤ 1048576) : Still Try.prog 96 [.slice a n.length cap, .slice al l.length cl] w (.bool (dec (KnownP n l))) := by
  have hlen := Rl.len
  refine Spec.of _ Try.func96 rfl Try.ntmps96 (by kernel_rfl) rfl ?_
  repeat' (first
    | (show WL _ _ _ _ _ _ _; first | apply WL.nil | (refine WL.au (k := ?_)))
    | (show Z _ _ _ _ _; apply Z.then_normal)
    | (show W _ _ _ _ _ _; first | apply W.seq | apply W.region | apply W.block))
  refine W.loop1 l.length (fun k => k ≤ l.length ∧ KnownP n (l.take k)) (fun k => [(0, .slice a n.length cap), (1, .slice al l.length cl), (5, .int .i64 k)]) ⟨by omega, fun x h => by simp at h⟩ (fun k h => h.1) ⟨rfl, rfl, rfl, trivial⟩ ?_
  rintro k ⟨hk, hK⟩
  by_cases hlt : k < l.length
  · obtain ⟨z, hz⟩ := getI l hlt
    by_cases hzz : 0 ≤ z ∧ z ≤ 2 * (n.length : Int) + 1
    · repeat' (first
        | (apply WL.gF; exact rfl; exact rfl; (focus (first | exact dec_true (by omega) | exact dec_false (by omega); done)))
        | (apply W.condKT; exact rfl; (focus (first | exact dec_true (by omega) | exact dec_false (by omega); done)))
        | (apply W.condKF; exact rfl; (focus (first | exact dec_true (by omega) | exact dec_false (by omega); done)))
        | (show WL _ _ _ _ _ _ _; first | apply WL.nil | (refine WL.au (k := ?_)) | (apply WL.index tOk; exact rfl; exact rfl; exact rfl; exact rfl; exact rfl; exact rfl; exact rfl; exact rfl; assumption; (exact extA); exact rfl; omega; assumption; intro b off h; have hcc := h; first | (obtain ⟨h1, h2, h3, h4, h5, h6, _⟩ := h) | (obtain ⟨h1, h2, h3, _⟩ := h) | (obtain ⟨h1, h2, _⟩ := h) | (obtain ⟨h1, _⟩ := h)))
        | (show Z _ _ _ _ _; first | apply Z.then_normal | apply Z.block_normal)
        | (show W _ _ _ _ _ _; first | apply W.seq | apply W.region | apply W.block | apply W.skip))
      exact Z.again1 ⟨by omega, fun x hx => by
        rw [take_succ' hz] at hx
        rcases List.mem_append.1 hx with h1 | h1
        · exact hK x h1
        · obtain rfl := List.mem_singleton.1 h1; exact hzz⟩ ⟨rfl, rfl, rfl, trivial⟩
    · repeat' (first
        | (apply W.condKT; exact rfl; (focus (exact dec_true (by omega); done)))
        | (show WL _ _ _ _ _ _ _; first | apply WL.nil | (refine WL.au (k := ?_)) | (apply WL.index tOk; exact rfl; exact rfl; exact rfl; exact rfl; exact rfl; exact rfl; exact rfl; exact rfl; assumption; (exact extA); exact rfl; omega; assumption; intro b off h; have hcc := h; first | (obtain ⟨h1, h2, h3, h4, h5, h6, _⟩ := h) | (obtain ⟨h1, h2, h3, _⟩ := h) | (obtain ⟨h1, h2, _⟩ := h) | (obtain ⟨h1, _⟩ := h)) | (apply WL.guardF; exact rfl; exact rfl) | (apply WL.gD; exact rfl; exact rfl; all_goals intro _))
        | (show Z _ _ _ _ _; first | apply Z.then_normal | apply Z.then_ret | apply Z.block_ret)
        | (show W _ _ _ _ _ _; first | apply W.seq | apply W.region | apply W.block | apply W.skip | apply W.ret | (apply W.condT; exact rfl)))
      all_goals first
        | (exfalso; omega)
        | exact Z.body1 Try.results96 rfl fun m => ⟨congrArg Value.bool (dec_false (fun h => hzz (h z (List.mem_of_getElem? hz)))).symm, m, rfl⟩
  · obtain rfl : k = l.length := by omega
    rw [List.take_length] at hK
    repeat' (first
      | (apply W.condKF; exact rfl; (focus (exact dec_false (by omega); done)))
      | (show WL _ _ _ _ _ _ _; first | apply WL.nil | (refine WL.au (k := ?_)))
      | (show Z _ _ _ _ _; first | apply Z.then_normal | apply Z.then_exit | apply Z.block_exit)
      | (show W _ _ _ _ _ _; first | apply W.seq | apply W.region | apply W.ret | apply W.exit))
    exact Z.body1 Try.results96 rfl fun m => ⟨congrArg Value.bool (dec_true hK).symm, m, rfl⟩
theorem law44_Small (a al : Option Addr) (cap cl : Nat) (n : List (Int × Int)) (l : List Int) (most : Int) (w : World) (R : Row 2 encN w a n) (Rl : Row 1 encI w al l) (hm : most ≤ 1048576) :
    Still Try.prog 37 [.slice a n.length cap, .slice al l.length cl, .int .i64 most] w (.bool (dec (((n.length : Int) ≤ most ∧ GoodNet n) ∧ l.length ≤ 20 ∧ KnownP n l))) := by
  have hgo : ∀ {b : Bool}, b = dec (((n.length : Int) ≤ most ∧ GoodNet n) ∧ l.length ≤ 20 ∧ KnownP n l) → Value.bool b = .bool (dec (((n.length : Int) ≤ most ∧ GoodNet n) ∧ l.length ≤ 20 ∧ KnownP n l)) := fun h => by rw [h]
  by_cases h1 : (n.length : Int) ≤ most ∧ GoodNet n
  · by_cases h2 : l.length ≤ 20
    · by_cases h3 : KnownP n l
      · refine Spec.of _ Try.func37 rfl Try.ntmps37 (by kernel_rfl) rfl ?_
        repeat' (first
          | ((show WL _ _ _ (⟨_, .call ⟨.value (.func 95), _, _⟩, _, _, _, _⟩ :: _) _ _ _); apply WL.callS; exact rfl; exact rfl; exact rfl; exact rfl; exact law07_Small _ _ n most _ R hm)
          | ((show WL _ _ _ (⟨_, .call ⟨.value (.func 96), _, _⟩, _, _, _, _⟩ :: _) _ _ _); apply WL.callS; exact rfl; exact rfl; exact rfl; exact rfl; exact ref22_Known _ _ _ _ n l _ Rl (by omega))
          | (apply WL.gT; exact rfl; exact rfl; (focus (first | exact dec_true h1 | exact dec_true h3 | exact dec_true (by omega); done)))
          | (show WL _ _ _ _ _ _ _; first | apply WL.nil | (refine WL.au (k := ?_)))
          | (show Z _ _ _ _ _; apply Z.then_normal)
          | (show W _ _ _ _ _ _; first | apply W.seq | apply W.region | apply W.ret))
        exact Z.body1 Try.results37 rfl fun m => ⟨hgo (by first | exact (dec_true ⟨h1, h2, h3⟩).symm | exact (dec_true h3).trans (dec_true ⟨h1, h2, h3⟩).symm), m, rfl⟩
      · refine Spec.of _ Try.func37 rfl Try.ntmps37 (by kernel_rfl) rfl ?_
        repeat' (first
          | ((show WL _ _ _ (⟨_, .call ⟨.value (.func 95), _, _⟩, _, _, _, _⟩ :: _) _ _ _); apply WL.callS; exact rfl; exact rfl; exact rfl; exact rfl; exact law07_Small _ _ n most _ R hm)
          | ((show WL _ _ _ (⟨_, .call ⟨.value (.func 96), _, _⟩, _, _, _, _⟩ :: _) _ _ _); apply WL.callS; exact rfl; exact rfl; exact rfl; exact rfl; exact ref22_Known _ _ _ _ n l _ Rl (by omega))
          | (apply WL.gT; exact rfl; exact rfl; (focus (first | exact dec_true h1 | exact dec_false h3 | exact dec_true (by omega); done)))
          | (show WL _ _ _ _ _ _ _; first | apply WL.nil | (refine WL.au (k := ?_)))
          | (show Z _ _ _ _ _; apply Z.then_normal)
          | (show W _ _ _ _ _ _; first | apply W.seq | apply W.region | apply W.ret))
        exact Z.body1 Try.results37 rfl fun m => ⟨hgo (by first | exact (dec_false (fun h => h3 h.2.2)).symm | exact (dec_false h3).trans (dec_false (fun h => h3 h.2.2)).symm), m, rfl⟩
    · refine Spec.of _ Try.func37 rfl Try.ntmps37 (by kernel_rfl) rfl ?_
      repeat' (first
        | ((show WL _ _ _ (⟨_, .call ⟨.value (.func 95), _, _⟩, _, _, _, _⟩ :: _) _ _ _); apply WL.callS; exact rfl; exact rfl; exact rfl; exact rfl; exact law07_Small _ _ n most _ R hm)
        | (apply WL.gT; exact rfl; exact rfl; (focus (first | exact dec_true h1 | exact dec_false (by omega); done)))
        | (apply WL.gF; exact rfl; exact rfl; (focus (first | exact dec_true h1 | exact dec_false (by omega); done)))
        | (show WL _ _ _ _ _ _ _; first | apply WL.nil | (refine WL.au (k := ?_)) | (apply WL.guardF; exact rfl; exact rfl))
        | (show Z _ _ _ _ _; apply Z.then_normal)
        | (show W _ _ _ _ _ _; first | apply W.seq | apply W.region | apply W.ret))
      exact Z.body1 Try.results37 rfl fun m => ⟨congrArg Value.bool (dec_false (fun h => h2 h.2.1)).symm, m, rfl⟩
  · refine Spec.of _ Try.func37 rfl Try.ntmps37 (by kernel_rfl) rfl ?_
    repeat' (first
      | ((show WL _ _ _ (⟨_, .call ⟨.value (.func 95), _, _⟩, _, _, _, _⟩ :: _) _ _ _); apply WL.callS; exact rfl; exact rfl; exact rfl; exact rfl; exact law07_Small _ _ n most _ R hm)
      | (apply WL.gF; exact rfl; exact rfl; (focus (first | exact dec_false h1; done)))
      | (show WL _ _ _ _ _ _ _; first | apply WL.nil | (refine WL.au (k := ?_)) | (apply WL.guardF; exact rfl; exact rfl))
      | (show Z _ _ _ _ _; apply Z.then_normal)
      | (show W _ _ _ _ _ _; first | apply W.seq | apply W.region | apply W.ret))
    exact Z.body1 Try.results37 rfl fun m => ⟨congrArg Value.bool (dec_false (fun h => h1 h.1)).symm, m, rfl⟩
end Go.Proofs.Ythpnahapiodflaa
namespace Go.Proofs.Ythpnahapiodflaa
open Go Go.Lt Go.RowKit
set_option linter.unusedVariables false
set_option linter.unusedSimpArgs false
set_option maxRecDepth 20000

theorem andV_new {N : List (Int × Int)} {a b : Int} (ha : hasL N a) (hb : hasL N b) (h1 : 2 ≤ a ∧ a / 2 < b / 2) (h2 : ∀ j : Nat, N[j]? ≠ some (a, b)) : andV N a b = (2 * ((N.length : Int) + 1), N ++ [(a, b)]) := by
  obtain ⟨x, y, hxy, hle, hw⟩ := andV_ways N a b
  obtain ⟨rfl, rfl⟩ : x = a ∧ y = b := by
    rcases hxy with h | ⟨h3, h4⟩
    · exact h
    · omega
  rcases hw with ⟨k, _⟩ | ⟨_, k, _⟩ | ⟨_, _, k, _⟩ | ⟨_, _, i, _, k, _⟩ | ⟨_, _, _, h⟩
  · exact absurd ⟨ha, hb⟩ k
  · rcases k with k | k
    · omega
    · unfold Lt.xor1 at k; split at k <;> omega
  · omega
  · exact absurd k (h2 i)
  · exact h
def exN : List (Int × Int) := [(-1, 0), (-1, 0), (-1, 0), (-1, 0), (2, 4), (10, 6), (12, 8)]
def exI : List (Int × Int) := [(-1, 0), (-1, 0), (-1, 0), (-1, 0)]
def exM : List (Int × Int) := [(-1, 0), (-1, 0), (-1, 0), (-1, 0), (2, 4), (6, 8), (10, 12)]
theorem exN_good : GoodNet exN := by
  intro i x h
  match i, h with
  | 0, h | 1, h | 2, h | 3, h | 4, h | 5, h | 6, h => cases h; unfold badNode; decide
  | i + 7, h => simp [exN] at h
theorem exM_good : GoodNet exM := by
  intro i x h
  match i, h with
  | 0, h | 1, h | 2, h | 3, h | 4, h | 5, h | 6, h => cases h; unfold badNode; decide
  | i + 7, h => simp [exM] at h
theorem exU : usesV exN [14] = [0, 1, 1, 1, 1, 1, 1, 2] := by decide
theorem no_get {N : List (Int × Int)} {p : Int × Int} (h : p ∉ N) : ∀ j : Nat, N[j]? ≠ some p := fun j hj => h (List.mem_of_getElem? hj)
theorem ex_inn {x : Int} (h1 : x % 2 = 0) (h2 : gateN exN (x / 2)) (h3 : ([0, 1, 1, 1, 1, 1, 1, 2] : List Int).getD (x / 2).toNat 0 = 1) (g : Int → List Int) : leafX exN [0, 1, 1, 1, 1, 1, 1, 2] g x = g (x / 2) := by
  unfold leafX; rw [dec_true ⟨h1, h2, h3⟩]; rfl
theorem ex_out {x : Int} (h : ¬ gateN exN (x / 2)) (g : Int → List Int) : leafX exN [0, 1, 1, 1, 1, 1, 1, 2] g x = [x] := by
  unfold leafX; rw [dec_false (fun k => h k.2.1)]; rfl
theorem exL : leafF exN [0, 1, 1, 1, 1, 1, 1, 2] 7 7 = [2, 4, 6, 8] := by
  have g5 : gateN exN 5 := by unfold gateN; decide
  have g6 : gateN exN 6 := by unfold gateN; decide
  have g7 : gateN exN 7 := by unfold gateN; decide
  have n1 : ¬ gateN exN 1 := by unfold gateN; decide
  have n2 : ¬ gateN exN 2 := by unfold gateN; decide
  have n3 : ¬ gateN exN 3 := by unfold gateN; decide
  have n4 : ¬ gateN exN 4 := by unfold gateN; decide
  rw [leafF, dec_true g7]
  show leafX exN _ (leafF exN _ 6) 12 ++ leafX exN _ (leafF exN _ 6) 8 = _
  rw [ex_inn (x := 12) (by decide) g6 (by decide), ex_out (x := 8) n4]
  show leafF exN _ 6 6 ++ [8] = _
  rw [leafF, dec_true g6]
  show (leafX exN _ (leafF exN _ 5) 10 ++ leafX exN _ (leafF exN _ 5) 6) ++ [8] = _
  rw [ex_inn (x := 10) (by decide) g5 (by decide), ex_out (x := 6) n3]
  show (leafF exN _ 5 5 ++ [6]) ++ [8] = _
  rw [leafF, dec_true g5]
  show ((leafX exN _ (leafF exN _ 4) 2 ++ leafX exN _ (leafF exN _ 4) 4) ++ [6]) ++ [8] = _
  rw [ex_out (x := 2) n1, ex_out (x := 4) n2]
  rfl
theorem exA : allB 4 exI [2, 4, 6, 8] = (14, exM) := by
  have a1 : andV exI 2 4 = (10, exI ++ [(2, 4)]) := andV_new (by unfold hasL exI; decide) (by unfold hasL exI; decide) (by decide) (no_get (by decide))
  have a2 : andV (exI ++ [(2, 4)]) 6 8 = (12, exI ++ [(2, 4), (6, 8)]) := andV_new (by unfold hasL exI; decide) (by unfold hasL exI; decide) (by decide) (no_get (by decide))
  have a3 : andV (exI ++ [(2, 4), (6, 8)]) 10 12 = (14, exM) := andV_new (by unfold hasL exI; decide) (by unfold hasL exI; decide) (by decide) (no_get (by decide))
  have m1 : mrgA exI [2, 4, 6, 8] = (10, exI ++ [(2, 4)]) := by
    show andV exI (([2, 4, 6, 8] : List Int).getD (fstP exI [2, 4, 6, 8]) 0) _ = _
    rw [show fstP exI [2, 4, 6, 8] = 0 by decide]
    show andV exI 2 (([4, 6, 8] : List Int).getD (fstP exI [4, 6, 8]) 0) = _
    rw [show fstP exI [4, 6, 8] = 0 by decide]
    exact a1
  have r1 : mrgR exI [2, 4, 6, 8] = [6, 8] := by decide
  have m2 : mrgA (exI ++ [(2, 4)]) [6, 8, 10] = (12, exI ++ [(2, 4), (6, 8)]) := by
    show andV _ (([6, 8, 10] : List Int).getD (fstP (exI ++ [(2, 4)]) [6, 8, 10]) 0) _ = _
    rw [show fstP (exI ++ [(2, 4)]) [6, 8, 10] = 0 by decide]
    show andV _ 6 (([8, 10] : List Int).getD (fstP (exI ++ [(2, 4)]) [8, 10]) 0) = _
    rw [show fstP (exI ++ [(2, 4)]) [8, 10] = 0 by decide]
    exact a2
  have r2 : mrgR (exI ++ [(2, 4)]) [6, 8, 10] = [10] := by decide
  have m3 : mrgA (exI ++ [(2, 4), (6, 8)]) [10, 12] = (14, exM) := by
    show andV _ (([10, 12] : List Int).getD (fstP (exI ++ [(2, 4), (6, 8)]) [10, 12]) 0) _ = _
    rw [show fstP (exI ++ [(2, 4), (6, 8)]) [10, 12] = 0 by decide]
    show andV _ 10 (([12] : List Int).getD (fstP (exI ++ [(2, 4), (6, 8)]) [12]) 0) = _
    rw [show fstP (exI ++ [(2, 4), (6, 8)]) [12] = 0 by decide]
    exact a3
  have r3 : mrgR (exI ++ [(2, 4), (6, 8)]) [10, 12] = [] := by decide
  rw [allB, if_neg (by decide), m1, r1]
  show allB 3 _ [6, 8, 10] = _
  rw [allB, if_neg (by decide), m2, r2]
  show allB 2 _ [10, 12] = _
  rw [allB, if_neg (by decide), m3, r3]
  show allB 1 _ [14] = _
  rw [allB, if_pos (by decide)]
  rfl
theorem exB : balV exN [14] = ([14], ⟨exM, [0, 2, 4, 6, 8, -1, -1, 14]⟩) := by
  have h0 : iniS exN = ⟨exI, [0, 2, 4, 6, 8, -1, -1, -1]⟩ := by
    unfold iniS
    congr 1
  unfold balV
  rw [exU, h0]
  show putsTo (putF exN _ 8) _ [14] 1 = _
  have hold : ∀ z ∈ ([2, 4, 6, 8] : List Int), putF exN [0, 1, 1, 1, 1, 1, 1, 2] 7 ⟨exI, [0, 2, 4, 6, 8, -1, -1, -1]⟩ z = (z, ⟨exI, [0, 2, 4, 6, 8, -1, -1, -1]⟩) := by
    intro z hz
    simp only [List.mem_cons, List.mem_nil_iff, or_false] at hz
    rcases hz with rfl | rfl | rfl | rfl
    all_goals
      rw [putF, if_pos (by decide)]
      congr 1
  have hputs : putsTo (putF exN [0, 1, 1, 1, 1, 1, 1, 2] 7) ⟨exI, [0, 2, 4, 6, 8, -1, -1, -1]⟩ [2, 4, 6, 8] 4 = ([2, 4, 6, 8], ⟨exI, [0, 2, 4, 6, 8, -1, -1, -1]⟩) := by
    simp only [putsTo]
    simp [hold 2 (by decide), hold 4 (by decide), hold 6 (by decide), hold 8 (by decide)]
  have hput : putF exN [0, 1, 1, 1, 1, 1, 1, 2] 8 ⟨exI, [0, 2, 4, 6, 8, -1, -1, -1]⟩ 14 = (14, ⟨exM, [0, 2, 4, 6, 8, -1, -1, 14]⟩) := by
    rw [putF, if_neg (by decide)]
    have hL : leafL exN [0, 1, 1, 1, 1, 1, 1, 2] (14 / 2) = [2, 4, 6, 8] := exL
    unfold putG
    rw [hL]
    show (negB (allB (putsTo _ _ [2, 4, 6, 8] 4).1.length (putsTo _ _ [2, 4, 6, 8] 4).2.N (putsTo _ _ [2, 4, 6, 8] 4).1).1 14, (⟨(allB (putsTo _ _ [2, 4, 6, 8] 4).1.length (putsTo _ _ [2, 4, 6, 8] 4).2.N (putsTo _ _ [2, 4, 6, 8] 4).1).2, (putsTo _ _ [2, 4, 6, 8] 4).2.O.set 7 (allB (putsTo _ _ [2, 4, 6, 8] 4).1.length (putsTo _ _ [2, 4, 6, 8] 4).2.N (putsTo _ _ [2, 4, 6, 8] 4).1).1⟩ : BSt)) = _
    rw [hputs]
    show (negB (allB 4 exI [2, 4, 6, 8]).1 14, (⟨(allB 4 exI [2, 4, 6, 8]).2, ([0, 2, 4, 6, 8, -1, -1, -1] : List Int).set 7 (allB 4 exI [2, 4, 6, 8]).1⟩ : BSt)) = _
    rw [exA]
    congr 1
  simp only [putsTo]
  show (([] : List Int) ++ [(putF exN [0, 1, 1, 1, 1, 1, 1, 2] 8 _ 14).1], (putF exN [0, 1, 1, 1, 1, 1, 1, 2] 8 _ 14).2) = _
  rw [hput]
  rfl
theorem exD : depthTo exM [14] 1 = 2 := by
  rw [depthTo_succ (x := 14) rfl]
  unfold dstp
  rw [if_pos (show rootL exM 14 from by unfold rootL exM; decide)]
  decide
set_option maxHeartbeats 8000000 in
theorem law48_lives (w : World) : Pure Try.prog 38 [] w (.bool true) := by
  refine Spec.of _ Try.func38 rfl Try.ntmps38 (by kernel_rfl) rfl ?_
  repeat' (first
    | (apply WL.build tOk; exact rfl; exact rfl; exact rfl; exact rfl; exact rfl; exact rfl; exact rfl; kernel_rfl)
    | (apply WL.alloc tOk; exact rfl; exact rfl; exact rfl; intro gb w' hb hge hx; (obtain ⟨g1, rfl⟩ : ∃ x, x = gb := ⟨_, rfl⟩; obtain ⟨hge1, rfl⟩ : ∃ x, x = hge := ⟨_, rfl⟩))
    | (apply WL.storeB (w0 := w) tOk; exact rfl; exact rfl; exact rfl; exact rfl; assumption; (exact extA); exact rfl; exact rfl; exact rfl; (exact extA); (first | assumption | omega | (focus (apply Nat.le_trans; rotate_left; assumption; exact Below.size (by (exact extA)); done))); intro w' hb hc hX' hU; have hcc := hc; obtain ⟨h1, h2, _⟩ := hc; (obtain ⟨w3, rfl⟩ : ∃ x, x = w' := ⟨_, rfl⟩; obtain ⟨hb3, rfl⟩ : ∃ x, x = hb := ⟨_, rfl⟩; obtain ⟨hX3, rfl⟩ : ∃ x, x = hX' := ⟨_, rfl⟩; have hcd := cells_heap hb3))
    | (apply WL.lit tOk; exact rfl; exact rfl; exact rfl; exact rfl; exact rfl; exact rfl; (first | exact rfl | kernel_rfl | (simp [Instr.fill, catCells]; done)); exact rfl; intro gb w' hb hge hc hx; have hO := Own.of_block ([((-1 : Int), (0 : Int)), (-1, 0), (-1, 0), (-1, 0), (2, 4), (10, 6), (12, 8)]) encN_ok hb hge rfl; (obtain ⟨g4, rfl⟩ : ∃ x, x = gb := ⟨_, rfl⟩; obtain ⟨w4, rfl⟩ : ∃ x, x = w' := ⟨_, rfl⟩; obtain ⟨hx4, rfl⟩ : ∃ x, x = hx := ⟨_, rfl⟩; obtain ⟨hO4, rfl⟩ : ∃ x, x = hO := ⟨_, rfl⟩))
    | (apply WL.lit tOk; exact rfl; exact rfl; exact rfl; exact rfl; exact rfl; exact rfl; (first | exact rfl | kernel_rfl | (simp [Instr.fill, catCells]; done)); exact rfl; intro gb w' hb hge hc hx; have hO := Own.of_block ([(14 : Int)]) encI_ok hb hge rfl; (obtain ⟨g5, rfl⟩ : ∃ x, x = gb := ⟨_, rfl⟩; obtain ⟨w5, rfl⟩ : ∃ x, x = w' := ⟨_, rfl⟩; obtain ⟨hx5, rfl⟩ : ∃ x, x = hx := ⟨_, rfl⟩; obtain ⟨hO5, rfl⟩ : ∃ x, x = hO := ⟨_, rfl⟩))
    | (show WL _ _ _ _ _ _ _; first | apply WL.nil | (refine WL.au (k := ?_)))
    | (show Z _ _ _ _ _; apply Z.then_normal)
    | (show W _ _ _ _ _ _; first | apply W.seq | apply W.region)
    | fail)
  have RN := (hO4.row encN_ok).ext hx5
  have RO := hO5.row encI_ok
  have hbal := balance_Balance (some ⟨g4, 0, none⟩) (some ⟨g5, 0, none⟩) 7 1 exN [14] w5 RN RO exN_good (by decide) (by decide) (by decide)
  rw [exB] at hbal
  have h14 : ([14] : List Int)[((0 : Int)).toNat]? = some 14 := rfl
  have l14 : ([14] : List Int).length = 1 := rfl
  have hbal' : Lt.Spec Try.prog 39 [.slice (some ⟨g4, 0, none⟩) 7 7, .slice (some ⟨g5, 0, none⟩) 1 1] w5 (fun v w' => Ext w5 w' ∧ ∃ ma mc ta tc, v = .tuple #[.slice ma 7 mc, .slice ta 1 tc] ∧ Row 2 encN w' ma exM ∧ Row 1 encI w' ta [14] ∧ (ma = none → mc = 0) ∧ (ta = none → tc = 0) ∧ 1 ≤ tc) := hbal
  repeat' (first
    | (((show WL _ _ _ (⟨_, .call ⟨.value (.func 39), _, _⟩, _, _, _, _⟩ :: _) _ _ _); apply WL.call; exact rfl; exact rfl; exact rfl; exact rfl; exact hbal'; rintro v' w6 ⟨hx6, ma, mc, ta, tc, rfl, R1, R2, _, _⟩; have hck := fun (w9 : World) (h9 : Ext w6 w9) => ref07_Check ma mc exM w9 (R1.ext h9); rw [(check_zero (by decide)).2 exM_good] at hck; have hdp := fun (w9 : World) (h9 : Ext w6 w9) => ref08_Depth ma ta mc tc exM [14] w9 (R1.ext h9) (R2.ext h9) exM_good (by decide) (by unfold inI64; decide); rw [show ([14] : List Int).length = 1 from rfl, exD] at hdp))
    | (apply WL.gT; exact rfl; exact rfl; (focus (first | exact dec_true (by decide) | exact dec_true rfl; done)))
    | (apply WL.callS; exact rfl; exact rfl; exact rfl; exact rfl; exact hck _ (by (exact extA)))
    | (((show WL _ _ _ (⟨_, .call ⟨.value (.func 45), _, _⟩, _, _, _, _⟩ :: _) _ _ _); apply WL.callP; exact rfl; exact rfl; exact rfl; exact rfl; exact hdp _ (by (exact extA)); intro w7 hx7))
    | (show WL _ _ _ _ _ _ _; first | apply WL.nil | (refine WL.au (k := ?_)) | (apply WL.index tOk; exact rfl; exact rfl; exact rfl; exact rfl; exact rfl; exact rfl; exact rfl; exact rfl; assumption; (exact extA); exact rfl; omega; assumption; intro b off h; have hcc := h; first | (obtain ⟨h1, h2, h3, h4, h5, h6, _⟩ := h) | (obtain ⟨h1, h2, h3, _⟩ := h) | (obtain ⟨h1, h2, _⟩ := h) | (obtain ⟨h1, _⟩ := h)))
    | (show Z _ _ _ _ _; apply Z.then_normal)
    | (show W _ _ _ _ _ _; first | apply W.seq | apply W.region | apply W.ret)
    | fail)
  exact Z.body1 Try.results38 rfl fun m => ⟨congrArg Value.bool (dec_true rfl), Ext.at (by (exact extA)) m⟩
end Go.Proofs.Ythpnahapiodflaa
namespace Go.Proofs.Ythpnahapiodflaa
open Go Go.Lt Go.RowKit
set_option linter.unusedVariables false
set_option linter.unusedSimpArgs false
set_option maxRecDepth 20000

theorem factNN : FactEq Try.prog 104 := ⟨by kernel_rfl, by kernel_rfl⟩
set_option maxHeartbeats 4000000 in
theorem ref07_Same (a b : Option Addr) (cap cb : Nat) (n : List (Int × Int)) (w : World) (R : Row 2 encN w a n) (R2 : Row 2 encN w b n) :
    Still Try.prog 43 [.slice a n.length cap, .slice b n.length cb] w (.bool true) := by
  have hlen := R.len
  refine Spec.of _ Try.func43 rfl Try.ntmps43 (by kernel_rfl) rfl ?_
  repeat' (first
    | (apply W.condKF; exact rfl; (focus (exact dec_false (fun h => h rfl); done)))
    | (show WL _ _ _ _ _ _ _; first | apply WL.nil | (refine WL.au (k := ?_)))
    | (show Z _ _ _ _ _; apply Z.then_normal)
    | (show W _ _ _ _ _ _; first | apply W.seq | apply W.region | apply W.block | apply W.skip))
  refine W.loop1 n.length (fun k => k ≤ n.length) (fun k => [(0, .slice a n.length cap), (1, .slice b n.length cb), (5, .int .i64 k)]) (by omega) (fun k h => h) ⟨rfl, rfl, rfl, trivial⟩ ?_
  rintro k hk
  by_cases hlt : k < n.length
  · obtain ⟨z, hz⟩ := getI n hlt
    by_cases hin : z.1 < 0
    · repeat' (first
        | (apply WL.gT; exact rfl; exact rfl; (focus (exact dec_true (by omega); done)))
        | (apply W.condKT; exact rfl; (focus (exact dec_true (by omega); done)))
        | (show WL _ _ _ _ _ _ _; first | apply WL.nil | (refine WL.au (k := ?_)) | (apply WL.index tOk; exact rfl; exact rfl; exact rfl; exact rfl; exact rfl; exact rfl; exact rfl; exact rfl; assumption; (exact extA); exact rfl; omega; assumption; intro b off h; have hcc := h; first | (obtain ⟨h1, h2, h3, h4, h5, h6, _⟩ := h) | (obtain ⟨h1, h2, h3, _⟩ := h) | (obtain ⟨h1, h2, _⟩ := h) | (obtain ⟨h1, _⟩ := h)))
        | (show Z _ _ _ _ _; first | apply Z.then_normal | apply Z.then_exit | apply Z.block_exit)
        | (show W _ _ _ _ _ _; first | apply W.seq | apply W.region | apply W.block | apply W.skip | apply W.exit))
      exact Z.again1 (by omega) ⟨rfl, rfl, rfl, trivial⟩
    · repeat' (first
        | (apply WL.gF; exact rfl; exact rfl; (focus (first | exact dec_true (by omega) | exact dec_false (by omega) | exact dec_false (fun h => h rfl); done)))
        | (apply W.condKT; exact rfl; (focus (first | exact dec_true (by omega) | exact dec_false (by omega) | exact dec_false (fun h => h rfl); done)))
        | (apply W.condKF; exact rfl; (focus (first | exact dec_true (by omega) | exact dec_false (by omega) | exact dec_false (fun h => h rfl); done)))
        | (apply QL.neqS tOk; exact rfl; exact rfl; exact rfl; exact rfl; exact rfl; exact rfl; exact rfl; exact factNN)
        | (show WL _ _ _ _ _ _ _; first | apply WL.nil | (refine WL.au (k := ?_)) | (apply WL.index tOk; exact rfl; exact rfl; exact rfl; exact rfl; exact rfl; exact rfl; exact rfl; exact rfl; assumption; (exact extA); exact rfl; omega; assumption; intro b off h; have hcc := h; first | (obtain ⟨h1, h2, h3, h4, h5, h6, _⟩ := h) | (obtain ⟨h1, h2, h3, _⟩ := h) | (obtain ⟨h1, h2, _⟩ := h) | (obtain ⟨h1, _⟩ := h)) | (apply WL.guardF; exact rfl; exact rfl))
        | (show QL _ _ _ _ _ _ _; first | apply QL.nil | (refine QL.au (k := ?_)) | (apply QL.index tOk; exact rfl; exact rfl; exact rfl; exact rfl; exact rfl; exact rfl; exact rfl; exact rfl; assumption; (exact extA); exact rfl; omega; assumption; intro b off h; have hcc := h; first | (obtain ⟨h1, h2, h3, h4, h5, h6, _⟩ := h) | (obtain ⟨h1, h2, h3, _⟩ := h) | (obtain ⟨h1, h2, _⟩ := h) | (obtain ⟨h1, _⟩ := h)))
        | (show Z _ _ _ _ _; first | apply Z.then_normal | apply Z.block_normal)
        | (show W _ _ _ _ _ _; first | apply W.seq | apply W.region | apply W.block | apply W.skip | (apply W.condF; exact rfl) | (apply W.regionD tMix; kernel_rfl)))
      exact Z.again1 (by omega) ⟨rfl, rfl, rfl, trivial⟩
  · repeat' (first
      | (apply W.condKF; exact rfl; (focus (exact dec_false (by omega); done)))
      | (show WL _ _ _ _ _ _ _; first | apply WL.nil | (refine WL.au (k := ?_)))
      | (show Z _ _ _ _ _; first | apply Z.then_normal | apply Z.then_exit | apply Z.block_exit)
      | (show W _ _ _ _ _ _; first | apply W.seq | apply W.region | apply W.ret | apply W.exit))
    exact Z.body1 Try.results43 rfl fun m => ⟨rfl, m, rfl⟩

end Go.Proofs.Ythpnahapiodflaa
namespace Go.Proofs.Ythpnahapiodflaa
open Go Go.Lt Go.RowKit
set_option linter.unusedVariables false
set_option linter.unusedSimpArgs false
set_option maxRecDepth 20000

theorem balance_leavesNo (a ub : Option Addr) (cap cb : Nat) (n : List (Int × Int)) (U : List Int) (v : Int) (w : World) (R : Row 2 encN w a n) (q0 : ¬ gateN n v) :
    Lt.Spec Try.prog 101 [.slice a n.length cap, .slice ub U.length cb, .int .i64 v] w (IsFresh 1 encI 3 w ([] : List Int)) := by
  have e0 : dec (gateN n v) = false := dec_false q0
  refine Spec.of _ Try.func101 rfl Try.ntmps101 (by kernel_rfl) rfl ?_
  repeat' (first
    | ((show WL _ _ _ (⟨_, .call ⟨.value (.func 144), _, _⟩, _, _, _, _⟩ :: _) _ _ _); apply WL.callS; exact rfl; exact rfl; exact rfl; exact rfl; exact balance_gate _ _ _ _ _ (by assumption))
    | (apply W.condKT; exact rfl; (focus (first | (rw [e0]; done) | (rw [e0]; exact rfl); done)))
    | (show WL _ _ _ _ _ _ _; first | apply WL.nil | (refine WL.au (k := ?_)))
    | (show Z _ _ _ _ _; first | apply Z.then_normal | apply Z.then_ret)
    | (show W _ _ _ _ _ _; first | apply W.seq | apply W.region | apply W.ret)
    | fail)
  exact Z.body1 Try.results101 rfl fun m => ⟨(Ext.refl _).at m, none, 0, rfl, Own.nil⟩
theorem balance_Leaves (a b : Option Addr) (cap cb : Nat) (n : List (Int × Int)) (outs : List Int) (v : Int) (w : World) (R : Row 2 encN w a n) (Rb : Row 1 encI w b outs) (hg : GoodNet n) (hn : n.length ≤ 1048576) (ho : outs.length ≤ 1048576) (hk : ∀ l ∈ outs, 0 ≤ l ∧ l ≤ 2 * (n.length : Int) + 1) :
    Lt.Spec Try.prog 49 [.slice a n.length cap, .slice b outs.length cb, .int .i64 v] w (IsFresh 1 encI 3 w (leafF n (usesV n outs) n.length v)) := by
  have hlv : ∀ (w9 : World) (ua : Option Addr) (uc : Nat), Row 2 encN w9 a n → Row 1 encI w9 ua (usesV n outs) → Lt.Spec Try.prog 101 [.slice a n.length cap, .slice ua (usesV n outs).length uc, .int .i64 v] w9 (IsFresh 1 encI 3 w9 (leafF n (usesV n outs) n.length v)) := fun w9 ua uc h1 h2 => by
    by_cases hgt : gateN n v
    · exact balance_leaves a ua cap uc n outs hg hn n.length v w9 h1 h2 hgt.2.1 (by have := hgt.1; omega)
    · rw [leafF_no hgt]; exact balance_leavesNo a ua cap uc n (usesV n outs) v w9 h1 hgt
  refine Spec.of _ Try.func49 rfl Try.ntmps49 (by kernel_rfl) rfl ?_
  repeat' (first
    | ((show WL _ _ _ (⟨_, .call ⟨.value (.func 47), _, _⟩, _, _, _, _⟩ :: _) _ _ _); apply WL.call; exact rfl; exact rfl; exact rfl; exact rfl; exact balance_Uses a b cap cb n outs _ (R.ext (by (exact extA))) (Rb.ext (by (exact extA))) hg hn ho hk; rintro v' w' ⟨hx, a', cap', rfl, hO⟩; (obtain ⟨ua, rfl⟩ : ∃ x, x = a' := ⟨_, rfl⟩; obtain ⟨uc, rfl⟩ : ∃ x, x = cap' := ⟨_, rfl⟩; obtain ⟨hOU, rfl⟩ : ∃ x, x = hO := ⟨_, rfl⟩; obtain ⟨hxU, rfl⟩ : ∃ x, x = hx := ⟨_, rfl⟩; obtain ⟨w2, rfl⟩ : ∃ x, x = w' := ⟨_, rfl⟩; have RU := hOU.row encI_ok))
    | (apply WL.call; exact rfl; exact rfl; exact rfl; exact rfl; exact hlv _ ua uc (R.ext (by (exact extA))) (RU.ext (by (exact extA))); rintro v' w' ⟨hx, a', cap', rfl, hO⟩)
    | (show WL _ _ _ _ _ _ _; first | apply WL.nil | (refine WL.au (k := ?_)))
    | (show Z _ _ _ _ _; apply Z.then_normal)
    | (show W _ _ _ _ _ _; first | apply W.seq | apply W.region | apply W.ret)
    | fail)
  exact Z.body1 Try.results49 rfl fun m => ⟨Ext.at (by (exact extA)) m, a', cap', rfl, (hO.base (Below.size (show Ext w _ from (by (exact extA))))).ext ((Ext.refl _).at m)⟩
theorem ref48_LeavesAny (a b : Option Addr) (cap cb : Nat) (n : List (Int × Int)) (outs : List Int) (v : Int) (w : World) (R : Row 2 encN w a n) (Rb : Row 1 encI w b outs) (hg : GoodNet n) (hn : n.length ≤ 1048576) (ho : outs.length ≤ 1048576) (hk : ∀ l ∈ outs, 0 ≤ l ∧ l ≤ 2 * (n.length : Int) + 1) :
    Lt.Spec Try.prog 50 [.slice a n.length cap, .slice b outs.length cb, .int .i64 v] w (IsFresh 1 encI 3 w (leafF n (usesV n outs) n.length v)) := by
  by_cases hv : -1 ≤ v
  · exact ref48_Leaves a b cap cb n outs hg hn ho hk n.length v w R Rb (by
      by_cases hgt : gateN n v
      · exact .inl hgt.2.1
      · exact .inr hgt) hv
  · rw [leafF_no (fun h => by have := h.1; omega)]
    refine Spec.of _ Try.func50 rfl Try.ntmps50 (by kernel_rfl) rfl ?_
    repeat' (first
      | (apply WL.gT; exact rfl; exact rfl; (focus (first | exact dec_true (by omega); done)))
      | (show WL _ _ _ _ _ _ _; first | apply WL.nil | (refine WL.au (k := ?_)) | (apply WL.guardF; exact rfl; exact rfl))
      | (show Z _ _ _ _ _; first | apply Z.then_normal | apply Z.then_ret)
      | (show W _ _ _ _ _ _; first | apply W.seq | apply W.region | apply W.ret | (apply W.condT; exact rfl))
      | fail)
    exact Z.body1 Try.results50 rfl fun m => ⟨(Ext.refl _).at m, none, 0, rfl, Own.nil⟩
set_option maxHeartbeats 8000000 in
theorem law_BalanceTells (na oa : Option Addr) (nc oc : Nat) (n : List (Int × Int)) (outs : List Int) (v : Int) (w : World) (Rn : Row 2 encN w na n) (Ro : Row 1 encI w oa outs) (hnn : na = none → nc = 0) (hno : oa = none → oc = 0) :
    Pure Try.prog 9 [.slice na n.length nc, .slice oa outs.length oc, .int .i64 v] w (.bool true) := by
  have hsm := law44_Small na oa nc oc n outs 30 w Rn Ro (by decide)
  by_cases hs : ((n.length : Int) ≤ 30 ∧ GoodNet n) ∧ outs.length ≤ 20 ∧ KnownP n outs
  rotate_left
  · rw [dec_false hs] at hsm
    refine Spec.of _ Try.func9 rfl Try.ntmps9 (by kernel_rfl) rfl ?_
    repeat' (first
      | (apply WL.callS; exact rfl; exact rfl; exact rfl; exact rfl; exact hsm)
      | ((show WL _ _ _ (⟨_, .call ⟨.value (.func 38), _, _⟩, _, _, _, _⟩ :: _) _ _ _); apply WL.callP; exact rfl; exact rfl; exact rfl; exact rfl; exact law48_lives _; intro w' hx)
      | (show WL _ _ _ _ _ _ _; first | apply WL.nil | (refine WL.au (k := ?_)))
      | (show Z _ _ _ _ _; first | apply Z.then_normal | apply Z.then_ret)
      | (show W _ _ _ _ _ _; first | apply W.seq | apply W.region | apply W.ret | (apply W.condT; exact rfl))
      | fail)
    exact Z.body1 Try.results9 rfl fun m => ⟨rfl, Ext.at (by (exact extA)) m⟩
  rw [dec_true hs] at hsm
  obtain ⟨⟨hl, hg⟩, hol, hkn⟩ := hs
  have ho : ∀ l ∈ outs, 0 ≤ l ∧ l ≤ 2 * (n.length : Int) + 1 := hkn
  refine Spec.of _ Try.func9 rfl Try.ntmps9 (by kernel_rfl) rfl ?_
  repeat' (first
    | (apply WL.callS; exact rfl; exact rfl; exact rfl; exact rfl; exact hsm)
    | (show WL _ _ _ _ _ _ _; first | apply WL.nil | (refine WL.au (k := ?_)))
    | (show Z _ _ _ _ _; apply Z.then_normal)
    | (show W _ _ _ _ _ _; first | apply W.seq | apply W.region)
    | fail)
  refine W.condKF rfl rfl ?_
  repeat' (first
    | (apply WL.lit (len := 0) tOk; exact rfl; exact rfl; exact rfl; exact rfl; exact rfl; exact rfl; (first | exact rfl | kernel_rfl | (simp [Instr.fill, catCells]; done)); exact rfl; intro gb w' hb hge hc hx; have hO0 := Own.of_block0 (enc := encI) (s := 1) hb hge; (have hON := Own.of_block0 (enc := encN) (s := 2) hb hge))
    | ((show WL _ _ _ (⟨some 19, .call _, _, _, _, _⟩ :: _) _ _ _; apply WL.appendS (w0 := w) tOk encI_ok; exact rfl; exact rfl; exact rfl; exact rfl; exact rfl; exact rfl; exact rfl; exact rfl; exact rfl; exact rfl; exact hO0.base (Below.size (show Ext w _ from (by (exact extA)))); exact (by (exact extA)); exact rfl; exact Ro; exact (by (exact extA)); exact rfl; exact hno; exact rfl; exact (by (exact extA)); (simp only [List.length_nil]; omega); intro aO cO w3 hO3 hX3 hU3 hF3))
    | ((show WL _ _ _ (⟨some 23, .call _, _, _, _, _⟩ :: _) _ _ _; apply WL.appendS (w0 := w3) tOk encN_ok; exact rfl; exact rfl; exact rfl; exact rfl; exact rfl; exact rfl; exact rfl; exact rfl; exact rfl; exact rfl; exact hON; exact (by (exact extA)); exact rfl; exact Rn; exact (by (exact extA)); exact rfl; exact hnn; exact rfl; exact (by (exact extA)); (simp only [List.length_nil]; omega); intro aN cN w5 hO5 hX5 hU5 hF5))
    | (show WL _ _ _ _ _ _ _; first | apply WL.nil | (refine WL.au (k := ?_)))
    | (show Z _ _ _ _ _; apply Z.then_normal)
    | (show W _ _ _ _ _ _; first | apply W.seq | apply W.region | apply W.skip)
    | fail)
  have RO := hO3.row encI_ok
  have RN := hO5.row encN_ok
  have e3 : ([] : List Int) ++ outs = outs := rfl
  have hX35 : Ext w3 w5 := (by (exact extA))
  have RO5 : Row 1 encI w5 aO outs := RO.ext hX35
  have RN5 : Row 2 encN w5 aN n := RN
  have hbl := balance_Balance aN aO cN cO n outs w5 RN5 RO5 hg (by omega) (by omega) ho
  obtain ⟨q, hq⟩ : ∃ q, q = balV n outs := ⟨_, rfl⟩
  rw [← hq] at hbl
  repeat' (first
    | (((show WL _ _ _ (⟨_, .call ⟨.value (.func 39), _, _⟩, _, _, _, _⟩ :: _) _ _ _); apply WL.call; exact rfl; exact rfl; exact rfl; exact rfl; exact hbl; rintro v' w6 ⟨hX6, m1, c1, t1, d1, rfl, R1, R2, _, _⟩))
    | (show WL _ _ _ _ _ _ _; first | apply WL.nil | (refine WL.au (k := ?_)))
    | (show Z _ _ _ _ _; apply Z.then_normal)
    | (show W _ _ _ _ _ _; first | apply W.seq | apply W.region)
    | fail)
  have hXw6 : Ext w w6 := hX3.trans (hX35.trans hX6)
  have hbr := ref48_Balance na oa nc oc n outs w6 (Rn.ext hXw6) (Ro.ext hXw6) hg (by omega) (by omega) ho
  rw [← hq] at hbr
  repeat' (first
    | (((show WL _ _ _ (⟨_, .call ⟨.value (.func 46), _, _⟩, _, _, _, _⟩ :: _) _ _ _); apply WL.call; exact rfl; exact rfl; exact rfl; exact rfl; exact hbr; rintro v' w7 ⟨hX7, m2, c2, t2, d2, rfl, R3, R4, _, _⟩))
    | (show WL _ _ _ _ _ _ _; first | apply WL.nil | (refine WL.au (k := ?_)))
    | (show Z _ _ _ _ _; apply Z.then_normal)
    | (show W _ _ _ _ _ _; first | apply W.seq | apply W.region)
    | fail)
  have hXw7 : Ext w w7 := hXw6.trans hX7
  have Q1 := R1.ext hX7
  have Q2 := R2.ext hX7
  have QO := RO5.ext (hX6.trans hX7)
  have Qn := Rn.ext hXw7
  have Qo := Ro.ext hXw7
  clear R1 R2 RO5 RN5 RO RN
  have s1 := fun (w9 : World) (h9 : Ext w7 w9) => ref07_Same m1 m2 c1 c2 q.2.N w9 (Q1.ext h9) (R3.ext h9)
  have s2 := fun (w9 : World) (h9 : Ext w7 w9) => ref_Ints t1 t2 d1 d2 q.1 q.1 w9 (Q2.ext h9) (R4.ext h9)
  have s3 := fun (w9 : World) (h9 : Ext w7 w9) => ref_Ints aO oa cO oc outs outs w9 (QO.ext h9) (Qo.ext h9)
  rw [dec_true rfl] at s2 s3
  have f1 := fun (w9 : World) (h9 : Ext w7 w9) => balance_Uses na aO nc cO n outs w9 (Qn.ext h9) (QO.ext h9) hg (by omega) (by omega) ho
  have f2 := fun (w9 : World) (h9 : Ext w7 w9) => ref48_Uses na oa nc oc n outs w9 (Qn.ext h9) (Qo.ext h9) hg (by omega) (by omega) ho
  have f3 := fun (w9 : World) (h9 : Ext w7 w9) => balance_Leaves na aO nc cO n outs v w9 (Qn.ext h9) (QO.ext h9) hg (by omega) (by omega) ho
  have f4 := fun (w9 : World) (h9 : Ext w7 w9) => ref48_LeavesAny na oa nc oc n outs v w9 (Qn.ext h9) (Qo.ext h9) hg (by omega) (by omega) ho
  have s4 := fun (w9 : World) (x y : Option Addr) (cx cy : Nat) (U : List Int) (h1 : Row 1 encI w9 x U) (h2 : Row 1 encI w9 y U) => (show Still Try.prog 33 [.slice x U.length cx, .slice y U.length cy] w9 (.bool true) by have := ref_Ints x y cx cy U U w9 h1 h2; rwa [dec_true rfl] at this)
  repeat' (first
    | (apply WL.callS; exact rfl; exact rfl; exact rfl; exact rfl; exact s1 _ (by (exact extA)))
    | (((show WL _ _ _ (⟨_, .call ⟨.value (.func 33), _, _⟩, _, _, _, _⟩ :: _) _ _ _); apply WL.callS; exact rfl; exact rfl; exact rfl; exact rfl; first | exact s2 _ (by (exact extA)) | exact s3 _ (by (exact extA)) | exact s4 _ a3 a4 k3 k4 _ ((P3.row encI_ok).ext (by (exact extA))) ((P4.row encI_ok).ext (by (exact extA))) | exact s4 _ a1 a2 k1 k2 _ ((P1.row encI_ok).ext (by (exact extA))) ((P2.row encI_ok).ext (by (exact extA)))))
    | (apply WL.call; exact rfl; exact rfl; exact rfl; exact rfl; exact f1 _ (by (exact extA)); rintro v' w' ⟨hx, a', cap', rfl, hO⟩; (obtain ⟨a1, rfl⟩ : ∃ x, x = a' := ⟨_, rfl⟩; obtain ⟨k1, rfl⟩ : ∃ x, x = cap' := ⟨_, rfl⟩; obtain ⟨P1, rfl⟩ : ∃ x, x = hO := ⟨_, rfl⟩))
    | (apply WL.call; exact rfl; exact rfl; exact rfl; exact rfl; exact f2 _ (by (exact extA)); rintro v' w' ⟨hx, a', cap', rfl, hO⟩; (obtain ⟨a2, rfl⟩ : ∃ x, x = a' := ⟨_, rfl⟩; obtain ⟨k2, rfl⟩ : ∃ x, x = cap' := ⟨_, rfl⟩; obtain ⟨P2, rfl⟩ : ∃ x, x = hO := ⟨_, rfl⟩))
    | (apply WL.call; exact rfl; exact rfl; exact rfl; exact rfl; exact f3 _ (by (exact extA)); rintro v' w' ⟨hx, a', cap', rfl, hO⟩; (obtain ⟨a3, rfl⟩ : ∃ x, x = a' := ⟨_, rfl⟩; obtain ⟨k3, rfl⟩ : ∃ x, x = cap' := ⟨_, rfl⟩; obtain ⟨P3, rfl⟩ : ∃ x, x = hO := ⟨_, rfl⟩))
    | (apply WL.call; exact rfl; exact rfl; exact rfl; exact rfl; exact f4 _ (by (exact extA)); rintro v' w' ⟨hx, a', cap', rfl, hO⟩; (obtain ⟨a4, rfl⟩ : ∃ x, x = a' := ⟨_, rfl⟩; obtain ⟨k4, rfl⟩ : ∃ x, x = cap' := ⟨_, rfl⟩; obtain ⟨P4, rfl⟩ : ∃ x, x = hO := ⟨_, rfl⟩))
    | ((show WL _ _ _ (⟨_, .call ⟨.value (.func 38), _, _⟩, _, _, _, _⟩ :: _) _ _ _); apply WL.callP; exact rfl; exact rfl; exact rfl; exact rfl; exact law48_lives _; intro w' hx)
    | (show WL _ _ _ _ _ _ _; first | apply WL.nil | (refine WL.au (k := ?_)))
    | (show Z _ _ _ _ _; apply Z.then_normal)
    | (show W _ _ _ _ _ _; apply W.ret)
    | fail)
  exact Z.body1 Try.results9 rfl fun m => ⟨rfl, Ext.at (hXw7.trans (by (exact extA))) m⟩
end Go.Proofs.Ythpnahapiodflaa
namespace Go.Proofs.Ythpnahapiodflaa
open Go Go.Lt Go.ChangeShapes Go.WideShapes Go.ChangeAt Go.RowKit
set_option linter.unusedVariables false
set_option linter.unusedSimpArgs false
set_option maxRecDepth 20000
open Go.ChangeMaps (open_string shut_string)
namespace balanceTells
theorem own : ownKnob Try.prog.godebug = none := by kernel_rfl
theorem laidOut : laidOutB Try.prog = true := factLaid
set_option maxRecDepth 100000 in
theorem lifted (os : Os) (started : os.Started) (H : Type) (enc : TypeId × Value → H) :
    ReturnsInHanded {} Try.checked os 9 .any (Rows.balanceTellsSpec.pre6 enc Try.prog Try.f9 Rows.balanceTellsRow.domain false) (Rows.balanceTellsSpec.post enc Try.prog Try.f9 false true false false) := by
  refine returnsInHanded_of_change (C := Try.checked) own started (by kernel_rfl) Try.func9
    (ChangeSpec.witness6 (enc := enc) (C := Try.checked) false ⟨#[], #[.slice none 0 0, .slice none 0 0, .int .i64 0], []⟩ 8 (by kernel_rfl) (by kernel_rfl) (by kernel_rfl) (by kernel_rfl)) ?_
  intro W base args ds gs before hval0 hW hcnd _
  have hval : ∀ (j : Nat) t v, Try.f9.params[j]? = some t → args[j]? = some v → Value.okWide Try.prog W .any base t v := hval0
  have hW' := hW
  obtain ⟨p, q, hA0, hV, rfl, hfz, hnd⟩ := hW
  have hA : DataW.TrodAll enc Try.prog W 0 (fun _ => true) true Try.f9.params.toList args.toList ds p := hA0
  rw [Try.params9] at hA hval
  obtain ⟨v0, vs0, d0, ds0, p0, q0, hargs, rfl, rfl, h0, r0⟩ := trodAll_cons hA
  obtain ⟨v1, vs1, d1, ds1, p1, q1, rfl, rfl, rfl, h1, r1⟩ := trodAll_cons r0
  obtain ⟨v2, vs2, d2, ds2, p2, q2, rfl, rfl, rfl, h2, r2⟩ := trodAll_cons r1
  obtain ⟨rfl, rfl, rfl⟩ := trodAll_nil r2
  obtain rfl : args = #[v0, v1, v2] := by cases args; simp_all
  obtain ⟨rfl, rfl⟩ := trodVars_none hV
  have k0 := h0
  have lt0 : ∀ x ∈ p0, x.block < W.heap.size := by obtain ⟨m, hm⟩ := k0; exact DataW.trod_lt m _ _ _ hm
  have k1 := h1
  have lt1 : ∀ x ∈ p1, x.block < W.heap.size := by obtain ⟨m, hm⟩ := k1; exact DataW.trod_lt m _ _ _ hm
  have k2 := h2
  have lt2 : ∀ x ∈ p2, x.block < W.heap.size := by obtain ⟨m, hm⟩ := k2; exact DataW.trod_lt m _ _ _ hm
  obtain ⟨a0, l0, cap0, rfl, hl0, hm0, hna0, R0, w0⟩ := row_of (s := 2) (reads_pair' (s0 := 1) (s1 := 1) Try.underlying104 (reads_int Try.underlying3) (reads_int Try.underlying3) (by kernel_rfl) rfl rfl (by kernel_rfl) (by kernel_rfl)) (by kernel_rfl) Try.underlying50 (fun _ => rfl) (by decide) (hval 0 50 v0 rfl rfl) h0
  obtain ⟨a1, l1, cap1, rfl, hl1, hm1, hna1, R1, w1⟩ := row_of (s := 1) (reads_int Try.underlying3) (by kernel_rfl) Try.underlying23 (fun _ => rfl) (by decide) (hval 1 23 v1 rfl rfl) h1
  obtain ⟨n2, rfl, rfl, rfl, w2⟩ := open_int Try.underlying3 (hval 2 3 v2 rfl rfl) h2
  clear hA0 hval0
  refine (Spec.law (law_BalanceTells a0 a1 cap0 cap1 l0 l1 n2 W R0 R1 hna0 hna1)).mono fun e W' ⟨he, bel⟩ => ?_
  subst he
  exact ⟨_, rfl, _, _, _, [], _, [], hW', trodAll_mk1 (shut_bool Try.underlying4 _), (trodAll_cons_mk (Below.trod laidOut (by kernel_rfl) (of_decide_eq_true (by kernel_rfl)) k0 bel lt0) (trodAll_cons_mk (Below.trod laidOut (by kernel_rfl) (of_decide_eq_true (by kernel_rfl)) k1 bel lt1) (trodAll_cons_mk (Below.trod laidOut (by kernel_rfl) (of_decide_eq_true (by kernel_rfl)) k2 bel lt2) trodAll_mk0))), rfl, bel.frame _, fun h => by cases h⟩
theorem j0 : (Rows.balanceTellsRow.wf (OpenSpec.ofChange Rows.balanceTellsSpec)) = true := by kernel_rfl
theorem j3 : (Try.f9.params.all (Try.prog.readableRec ·)) = true := by kernel_rfl
theorem j4 : (namedTie Try.prog Rows.balanceTellsRow.named Rows.balanceTellsSpec.vars) = true := by kernel_rfl
theorem j5 : ((Rows.balanceTellsRow.stops == [])) = true := by kernel_rfl
theorem j7 : ((Rows.balanceTellsRow.knobs == [])) = true := by kernel_rfl
theorem j9 : ((Rows.balanceTellsRow.inPlace == Try.prog.inPlace 9)) = true := by kernel_rfl
theorem j10 : ((Rows.balanceTellsRow.unfollowed == Try.prog.unfollowed 9)) = true := by kernel_rfl
theorem j11 : ((Rows.balanceTellsRow.recurses == Try.prog.recurses 9)) = true := by kernel_rfl
theorem j12 : ((Rows.balanceTellsRow.named == Try.prog.varsNamed 9)) = true := by kernel_rfl
theorem j13 : ((Rows.balanceTellsRow.maps == (Try.f9.params.toList ++ Rows.balanceTellsSpec.plain.varTypes Try.prog).any (Try.prog.mapsRec ·))) = true := by kernel_rfl
theorem j14 : ((Rows.balanceTellsRow.ifaces == (Try.f9.params.toList ++ Rows.balanceTellsSpec.plain.varTypes Try.prog).any (Try.prog.ifacesRec ·))) = true := by kernel_rfl
theorem j15 : ((Rows.balanceTellsRow.mapsOut == Try.prog.mapsAmong Try.f9.resultTypes.toList)) = true := by kernel_rfl
theorem j16 : ((Rows.balanceTellsRow.loops == (Try.f9.params.toList ++ Rows.balanceTellsSpec.plain.varTypes Try.prog).any (Try.prog.loopsFrom ·))) = true := by kernel_rfl
theorem j17 : ((Rows.balanceTellsRow.wideKeys == (Try.f9.params.toList ++ Rows.balanceTellsSpec.plain.varTypes Try.prog ++ Try.f9.resultTypes.toList).any (Try.prog.wideKeysFrom ·))) = true := by kernel_rfl
theorem j18 : (Rows.balanceTellsSpec.vars.all (Try.prog.varReadable ·)) = true := by kernel_rfl
theorem j19 : (Try.f9.resultTypes.all (fun t => Try.prog.readableRec t && decide (t < Try.prog.types.size))) = true := by kernel_rfl
theorem j20 : ((Rows.balanceTellsRow.ifacesOut == Try.f9.resultTypes.toList.any (Try.prog.ifacesRec ·))) = true := by kernel_rfl
theorem j21 : ((Rows.balanceTellsRow.loopsOut == Try.f9.resultTypes.toList.any (Try.prog.loopsFrom ·))) = true := by kernel_rfl
theorem j22 : ((Rows.balanceTellsRow.plainKeys == Try.prog.plainKeys)) = true := by rw [show Rows.balanceTellsRow.plainKeys = Rows.genCountsRow.plainKeys by kernel_rfl]; exact factKeys
theorem j23 : (Rows.balanceTellsRow.shortTexts.isNone) = true := by kernel_rfl
theorem j26 : ((Rows.balanceTellsRow.lifted == Try.prog.liftsFinal)) = true := by rw [show Rows.balanceTellsRow.lifted = Rows.genCountsRow.lifted by kernel_rfl]; exact factLifts
theorem j27 : ((Try.prog.make == some Rows.balanceTellsRow.make)) = true := by rw [show Rows.balanceTellsRow.make = Rows.genCountsRow.make by kernel_rfl]; exact factMake
theorem j28 : ((Rows.balanceTellsRow.kinds == (if Rows.balanceTellsRow.domain.isEmpty then [] else Try.f9.params.toList.map fun t => match Try.prog.underlying t with | some (.int k) => some k | _ => none))) = true := by kernel_rfl
theorem j29 : ((Rows.balanceTellsRow.pinned == Rows.balanceTellsRow.pinnedBy)) = true := by kernel_rfl
theorem j30 : ((Rows.balanceTellsRow.veiled == (Try.f9.params.toList ++ Rows.balanceTellsSpec.plain.varTypes Try.prog ++ Try.f9.resultTypes.toList).any (Try.prog.veiledRec ·))) = true := by kernel_rfl
theorem j31 : (Rows.balanceTellsRow.veiledFits Try.prog Try.f9.params.toList (Try.f9.params.toList ++ Rows.balanceTellsSpec.plain.varTypes Try.prog ++ Try.f9.resultTypes.toList)) = true := by kernel_rfl
set_option maxRecDepth 100000 in
theorem closed : joinedFacts Try.checked.prog 9 Try.f9 Rows.balanceTellsSpec Rows.balanceTellsRow = true := by unfold joinedFacts; exact (band (band (band (band (band (band (band (band (band (band (band (band (band (band (band (band (band (band (band (band (band (band (band (band (band (band (band (band (band (band (band j0 factLaid) factMaps) j3) j4) j5) factStops) j7) factKnobs) j9) j10) j11) j12) j13) j14) j15) j16) j17) j18) j19) j20) j21) j22) j23) factHeard) factEnter) j26) j27) j28) j29) j30) j31)
theorem named : Try.checked.prog.funcNamed Rows.balanceTellsRow.func = some 9 := by kernel_rfl
theorem over : Rows.balanceTellsRow.holds Try.pinned (OpenSpec.ofChange Rows.balanceTellsSpec) :=
  OpenClaim.holds_of_wide 9 Try.f9 rfl rfl rfl rfl rfl rfl rfl ⟨rfl, rfl, rfl, rfl, rfl⟩ rfl rfl rfl rfl rfl named Try.func9 closed
    (of_decide_eq_true (by kernel_rfl)) (by unfold Func.isWrapper; first | (rw [if_pos (by decide +kernel)]; kernel_rfl) | (rw [if_neg (by decide +kernel)]; exact ⟨rfl, rfl⟩))
    (fun os started H enc _ => lifted os started H enc)
/-- The statement. -/
theorem proved : Rows.BalanceTellsSaid := over
end balanceTells
end Go.Proofs.Ythpnahapiodflaa
