/- What literals of any store mean: the law AigMeans. No conditions. -/
import Derived.Test.YtfkdlepemiepdaaAigC
import Derived.Test.YtfkdlepemiepdaaClone
import Derived.Test.YtfkdlepemiepdaaLtMore3
namespace Go.Proofs.Ytfkdlepemiepdaa
open Go Go.Lt Go.RowKit
set_option linter.unusedVariables false
set_option linter.unusedSimpArgs false

theorem ofL_notL (v : List Bool) {l : Int} (h : 0 ≤ l) : ofL v (notL l) = !ofL v l := by rw [notL_xor1 h, ofL_xor1 v h]
theorem orV_of {N : List (Int × Int)} (hT : Tidy N) (ins : List Bool) {x y : Int} (hx : hasL N x) (hy : hasL N y) : ofL (values (orV N x y).2 ins) (orV N x y).1 = (ofL (values N ins) x || ofL (values N ins) y) := by
  have h1 := andV_of hT ins (notL_has hx) (notL_has hy)
  have h2 := (andV_has (notL_has hx) (notL_has hy)).1
  show ofL (values (andV N (notL x) (notL y)).2 ins) (notL (andV N (notL x) (notL y)).1) = _
  rw [ofL_notL _ h2, h1, ofL_notL _ hx.1, ofL_notL _ hy.1]
  cases ofL (values N ins) x <;> cases ofL (values N ins) y <;> rfl
theorem muxV_of {N : List (Int × Int)} (hT : Tidy N) (ins : List Bool) {c x y : Int} (hc : hasL N c) (hx : hasL N x) (hy : hasL N y) : ofL (values (muxV N c x y).2 ins) (muxV N c x y).1 = (ofL (values N ins) c && ofL (values N ins) x || !ofL (values N ins) c && ofL (values N ins) y) := by
  rw [muxV_yes ⟨hc, hx, hy⟩]
  have g1 : Grow N (andV N c x).2 := .gate c x (.refl N)
  have g2 : Grow (andV N c x).2 (andV (andV N c x).2 (notL c) y).2 := .gate _ _ (.refl _)
  have l1 := g1.len
  have l2 := g2.len
  have a1 := andV_has hc hx
  have a2 := andV_has (hasL_mono (notL_has hc) l1) (hasL_mono hy l1)
  rw [orV_of ((g1.trans g2).tidy hT) ins (hasL_mono a1 l2) a2, g2.of ins a1, andV_of hT ins hc hx, andV_of (g1.tidy hT) ins (hasL_mono (notL_has hc) l1) (hasL_mono hy l1), g1.of ins (notL_has hc), g1.of ins hy, ofL_notL _ hc.1]
theorem xorV_of {N : List (Int × Int)} (hT : Tidy N) (ins : List Bool) {x y : Int} (hx : hasL N x) (hy : hasL N y) : ofL (values (xorV N x y).2 ins) (xorV N x y).1 = (ofL (values N ins) x != ofL (values N ins) y) := by
  unfold xorV
  rw [muxV_of hT ins hx (notL_has hy) hy, ofL_notL _ hy.1]
  cases ofL (values N ins) x <;> cases ofL (values N ins) y <;> rfl

theorem cnt_app (N L : List (Int × Int)) : ∀ k, k ≤ N.length → cnt (N ++ L) k = cnt N k
  | 0, _ => rfl
  | k + 1, h => by
    obtain ⟨x, hx⟩ := getI N (show k < N.length by omega)
    have hx' : (N ++ L)[k]? = some x := by rw [List.getElem?_append_left (by omega)]; exact hx
    rw [cnt, cnt, hx, hx', cnt_app N L k (by omega)]
theorem cnt_snoc_gate (N : List (Int × Int)) {x : Int × Int} (h : 0 ≤ x.1) : cnt (N ++ [x]) (N ++ [x]).length = cnt N N.length := by
  have hx : (N ++ [x])[N.length]? = some x := by simp
  rw [show (N ++ [x]).length = N.length + 1 by simp, cnt_gate hx (by omega), cnt_app N [x] _ (Nat.le_refl _)]
theorem cnt_snoc_in (N : List (Int × Int)) {x : Int × Int} (h : x.1 < 0) : cnt (N ++ [x]) (N ++ [x]).length = cnt N N.length + 1 := by
  have hx : (N ++ [x])[N.length]? = some x := by simp
  rw [show (N ++ [x]).length = N.length + 1 by simp, cnt_in hx h, cnt_app N [x] _ (Nat.le_refl _)]
theorem cnt_and (N : List (Int × Int)) (x y : Int) : cnt (andV N x y).2 (andV N x y).2.length = cnt N N.length := by
  obtain ⟨a, b, _, _, hw⟩ := andV_ways N x y
  rcases hw with ⟨_, hw⟩ | ⟨_, _, hw⟩ | ⟨_, _, _, hw⟩ | ⟨_, _, _, _, _, _, hw⟩ | ⟨h0, h1, h2, hw⟩ <;> rw [hw]
  exact cnt_snoc_gate N (x := (a, b)) (by show 0 ≤ a; omega)
theorem getD_snoc {α : Type} {L : List α} {z y d : α} {i : Nat} (h : (L ++ [z])[i]? = some y) : L[i]? = some y ∨ (i = L.length ∧ y = z) := get_snoc h
theorem copy_sem {n : List (Int × Int)} (hg : GoodNet n) (ins : List Bool) : ∀ k, k ≤ n.length →
    Tidy (cto [] n [] k).2.2 ∧ cnt (cto [] n [] k).2.2 (cto [] n [] k).2.2.length = cnt n k ∧ ∀ i z, (cto [] n [] k).1[i]? = some z → ofL (values (cto [] n [] k).2.2 ins) z = (values n ins).getD i false
  | 0, _ => by
    refine ⟨Tidy.nil, rfl, fun i z hz => ?_⟩
    have hz' : [(0 : Int)][i]? = some z := hz
    have hi := lt_of_get hz'
    simp at hi
    subst hi
    simp at hz'
    subst hz'
    rw [values_zero, ofL_zero]
  | k + 1, hk => by
    obtain ⟨x, hx⟩ := getI n (show k < n.length by omega)
    obtain ⟨h1, h2, h3⟩ := copy_sem hg ins k (by omega)
    obtain ⟨i1, i2, i3, i4, i5, i6⟩ := cto_inv (N := []) (ins := []) hg (fun z hz => by simp at hz) k (by omega)
    rw [cto_succ hx]
    generalize cto [] n [] k = s at h1 h2 h3 i1 i2 i3 i4 i5 i6
    unfold cstep
    by_cases h0 : 0 ≤ x.1
    · rw [if_pos h0]
      have hgt := hg.gate hx h0
      have ha := hasL_litI i2 (x := x.1) (by omega)
      have hb := hasL_litI i2 (x := x.2) (by omega)
      have hG : Grow s.2.2 (andV s.2.2 (litI s.1 x.1) (litI s.1 x.2)).2 := .gate _ _ (.refl _)
      have hl : ∀ y : Int, 0 ≤ y → (y / 2).toNat < s.1.length → ofL (values s.2.2 ins) (litI s.1 y) = ofL (values n ins) y := by
        intro y hy0 hy
        obtain ⟨z, hz⟩ := getI s.1 hy
        have hzv := h3 _ z hz
        have hz0 := (i2 z (List.mem_of_getElem? hz)).1
        unfold litI xorI
        rw [getD_of hz]
        by_cases hp : y % 2 = 1
        · rw [if_pos hp, ofL_xor1 _ hz0, hzv, ofL, decide_eq_true hp]; simp
        · rw [if_neg hp, hzv, ofL, decide_eq_false hp]; simp
      refine ⟨h1.and _ _, by rw [cnt_and, h2, cnt_gate hx (by omega)], fun i z hz => ?_⟩
      rcases get_snoc hz with hz1 | ⟨rfl, rfl⟩
      · rw [hG.of ins (i2 z (List.mem_of_getElem? hz1))]; exact h3 i z hz1
      · rw [andV_of h1 ins ha hb, hl _ h0 (by omega), hl _ (by omega) (by omega), i1, values_gate hg ins hx h0]
    · rw [if_neg h0, if_neg (by simp)]
      have hG : Grow s.2.2 (s.2.2 ++ [(-1, 0)]) := .input (.refl _)
      refine ⟨h1.input, by rw [cnt_snoc_in _ (by decide), h2, cnt_in hx (by omega)], fun i z hz => ?_⟩
      rcases get_snoc hz with hz1 | ⟨rfl, rfl⟩
      · rw [hG.of ins (i2 z (List.mem_of_getElem? hz1))]; exact h3 i z hz1
      · have hx2 : (s.2.2 ++ [((-1 : Int), (0 : Int))])[s.2.2.length]? = some (-1, 0) := by simp
        unfold ofL
        rw [show ((2 * ((s.2.2.length : Int) + 1)) / 2).toNat = s.2.2.length + 1 by omega, values_in ins hx2 (by decide), decide_eq_false (by omega), i1, values_in ins hx (by omega), cnt_app _ _ _ (Nat.le_refl _), h2]; simp

theorem aig_NetV (gs r cap : Nat) (a : Option Addr) (N : List (Int × Int)) (rest : List Piece) (w w0 : World) (hS : Sep w0.heap.size w (stN w0.heap.size gs a cap r N ++ rest)) (hN : N.length ≤ 1048576) :
    Lt.Spec Try.prog 55 [.pointer (some ⟨gs, 0, none⟩)] w (IsFresh 2 encN 35 w N) := by
  have hC0 := hS.cell (i := 0) rfl
  have hR1 := hS.row (i := 1) rfl
  obtain ⟨hD0, _⟩ := cells_heap hC0
  refine Spec.of _ Try.func55 rfl Try.ntmps55 (by kernel_rfl) rfl ?_
  repeat' (first
    | (apply WL.nilc; exact rfl; exact rfl; exact rfl)
    | (apply WL.eqNilS tOk; exact rfl; exact rfl; exact rfl; exact rfl; exact rfl; exact rfl)
    | (apply WL.neNilS tOk; exact rfl; exact rfl; exact rfl; exact rfl; exact rfl; exact rfl)
    | (apply WL.eqNil tOk; exact rfl; exact rfl; exact rfl; exact rfl; exact rfl; exact rfl)
    | (apply WL.neNil tOk; exact rfl; exact rfl; exact rfl; exact rfl; exact rfl; exact rfl)
    | (apply WL.gT; exact rfl; exact rfl; (focus (exact dec_false (by simp); done)))
    | (apply WL.gF; exact rfl; exact rfl; (focus (exact dec_false (by simp); done)))
    | (apply W.condKT; exact rfl; (focus (exact dec_false (by simp); done)))
    | (apply W.condKF; exact rfl; (focus (exact dec_false (by simp); done)))
    | ((show WL _ _ _ (⟨_, .call ⟨.value (.func 110), _, _⟩, _, _, _, _⟩ :: _) _ _ _); apply WL.call; exact rfl; exact rfl; exact rfl; exact rfl; exact slices_CloneN _ _ N _ (Own.row encN_ok hR1) (Own.noneCap hR1) hN; rintro v' w' ⟨hx, a', cap', rfl, hO⟩)
    | (show WL _ _ _ _ _ _ _; first | apply WL.nil | (apply WL.pev tOk; exact rfl; exact rfl; exact rfl) | (apply WL.load tOk; exact rfl; exact rfl; exact rfl; exact rfl; exact rfl; (first | assumption | (focus (apply Ext.cell; rotate_left; assumption; (exact extA); done)))) | (apply WL.index tOk; exact rfl; exact rfl; exact rfl; exact rfl; exact rfl; exact rfl; exact rfl; exact rfl; assumption; (exact extA); exact rfl; omega; assumption; intro b off h; have hcc := h; first | (obtain ⟨h1, h2, h3, h4, h5, h6, _⟩ := h) | (obtain ⟨h1, h2, h3, _⟩ := h) | (obtain ⟨h1, h2, _⟩ := h) | (obtain ⟨h1, _⟩ := h)) | (apply WL.add; exact rfl; exact rfl; exact rfl; exact rfl; omega) | (apply WL.sub; exact rfl; exact rfl; exact rfl; exact rfl; omega) | (apply WL.mul; exact rfl; exact rfl; exact rfl; exact rfl; omega) | (apply WL.quo; exact rfl; exact rfl; exact rfl; exact rfl; omega) | (apply WL.rem; exact rfl; exact rfl; exact rfl; exact rfl; omega) | (apply WL.loadA tOk; exact rfl; exact rfl; exact rfl; exact rfl; exact rfl; (first | assumption | (focus (apply Cells.ext; rotate_left; assumption; (exact extA); done))); exact rfl) | (apply WL.guardF; exact rfl; exact rfl) | (apply WL.gD; exact rfl; exact rfl; all_goals intro _) | (apply WL.gN; exact rfl; exact rfl; all_goals intro _) | (apply WL.gB; exact rfl; exact rfl; all_goals intro _))
    | (show Z _ _ _ _ _; first | apply Z.tail | apply Z.then_normal | apply Z.block_normal | apply Z.then_exit | apply Z.block_exit | apply Z.then_ret | apply Z.block_ret | (apply Z.block_other; exact rfl))
    | (show W _ _ _ _ _ _; first | apply W.seq | apply W.region | apply W.block | apply W.skip | apply W.ret | apply W.exit | (apply W.condT; exact rfl) | (apply W.condF; exact rfl) | (apply W.condD; exact rfl; all_goals intro _) | (apply W.condN; exact rfl; all_goals intro _) | (apply W.condB; exact rfl; all_goals intro _)))
  exact Z.body1 Try.results55 rfl fun m => ⟨Ext.at (by (exact extA)) m, a', cap', rfl, hO⟩
end Go.Proofs.Ytfkdlepemiepdaa
