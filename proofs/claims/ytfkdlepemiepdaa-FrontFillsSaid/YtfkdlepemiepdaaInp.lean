/- The inputs of a net. No conditions. -/
import Derived.Test.YtfkdlepemiepdaaCone1
import Derived.Test.YtfkdlepemiepdaaVals
namespace Go.Proofs.Ytfkdlepemiepdaa
open Go Go.Lt Go.RowKit
set_option linter.unusedVariables false
set_option linter.unusedSimpArgs false

noncomputable def inTo (n : List (Int × Int)) (k : Nat) : List Int := sel (k + 1) (fun u => 1 ≤ u ∧ InP n u)
noncomputable def inputs (n : List (Int × Int)) : List Int := inTo n n.length
theorem inTo_zero (n : List (Int × Int)) : inTo n 0 = [] := by rw [inTo, sel_no (fun h => by omega)]; rfl
theorem inTo_yes {n : List (Int × Int)} {k : Nat} {x : Int × Int} (hx : n[k]? = some x) (h : x.1 < 0) : inTo n (k + 1) = inTo n k ++ [((k + 1 : Nat) : Int)] := sel_yes ⟨by omega, x, by simpa using hx, h⟩
theorem inTo_no {n : List (Int × Int)} {k : Nat} {x : Int × Int} (hx : n[k]? = some x) (h : ¬ x.1 < 0) : inTo n (k + 1) = inTo n k := sel_no (fun ⟨_, y, hy, h'⟩ => by
  rw [Nat.add_sub_cancel, hx] at hy; cases hy; exact h h')
theorem inTo_len (n : List (Int × Int)) : ∀ k, k ≤ n.length → (inTo n k).length = cnt n k
  | 0, _ => by rw [inTo_zero]; rfl
  | k + 1, h => by
    obtain ⟨x, hx⟩ := getI n (show k < n.length by omega)
    by_cases hin : x.1 < 0
    · rw [inTo_yes hx hin, cnt_in hx hin, List.length_append, inTo_len n k (by omega)]; rfl
    · rw [inTo_no hx hin, cnt_gate hx hin, inTo_len n k (by omega)]
theorem aig_Inputs (a : Option Addr) (cap : Nat) (n : List (Int × Int)) (w : World) (R : Row 2 encN w a n) (hn : n.length ≤ 1048576) :
    Lt.Spec Try.prog 93 [.slice a n.length cap] w (IsFresh 1 encI 3 w (inputs n)) := by
  refine Spec.of _ Try.func93 rfl Try.ntmps93 (by kernel_rfl) rfl ?_
  repeat' (first
    | (show WL _ _ _ _ _ _ _; first | apply WL.nil | (apply WL.pev tOk; exact rfl; exact rfl; exact rfl) | (apply WL.load tOk; exact rfl; exact rfl; exact rfl; exact rfl; exact rfl; (first | assumption | (focus (apply Ext.cell; rotate_left; assumption; (exact extA); done)))) | (apply WL.index tOk; exact rfl; exact rfl; exact rfl; exact rfl; exact rfl; exact rfl; exact rfl; exact rfl; assumption; (exact extA); exact rfl; omega; assumption; intro b off h; have hcc := h; first | (obtain ⟨h1, h2, h3, h4, h5, h6, _⟩ := h) | (obtain ⟨h1, h2, h3, _⟩ := h) | (obtain ⟨h1, h2, _⟩ := h) | (obtain ⟨h1, _⟩ := h)) | (apply WL.add; exact rfl; exact rfl; exact rfl; exact rfl; omega) | (apply WL.sub; exact rfl; exact rfl; exact rfl; exact rfl; omega) | (apply WL.mul; exact rfl; exact rfl; exact rfl; exact rfl; omega) | (apply WL.quo; exact rfl; exact rfl; exact rfl; exact rfl; omega) | (apply WL.rem; exact rfl; exact rfl; exact rfl; exact rfl; omega) | (apply WL.loadA tOk; exact rfl; exact rfl; exact rfl; exact rfl; exact rfl; (first | assumption | (focus (apply Cells.ext; rotate_left; assumption; (exact extA); done))); exact rfl) | (apply WL.guardF; exact rfl; exact rfl) | (apply WL.gD; exact rfl; exact rfl; all_goals intro _) | (apply WL.gN; exact rfl; exact rfl; all_goals intro _) | (apply WL.gB; exact rfl; exact rfl; all_goals intro _))
    | (show Z _ _ _ _ _; first | apply Z.tail | apply Z.then_normal | apply Z.block_normal | apply Z.then_exit | apply Z.block_exit | apply Z.then_ret | apply Z.block_ret | (apply Z.block_other; exact rfl))
    | (show W _ _ _ _ _ _; first | apply W.seq | apply W.region | apply W.block | apply W.skip | apply W.ret | apply W.exit | (apply W.condT; exact rfl) | (apply W.condF; exact rfl) | (apply W.condD; exact rfl; all_goals intro _) | (apply W.condN; exact rfl; all_goals intro _) | (apply W.condB; exact rfl; all_goals intro _)))
  refine W.loopO n.length (fun k c cp w' => k ≤ n.length ∧ Ext w w' ∧ Own 1 encI 3 w.heap.size w' c cp (inTo n k))
    (fun k c cp => [(3, .slice c (inTo n k).length cp), (6, .slice a n.length cap), (7, .int .i64 n.length), (8, .int .i64 k)]) none 0 ⟨by omega, Ext.refl _, by rw [inTo_zero]; exact Own.nil⟩ (fun k c cp w' h => h.1) ⟨by rw [inTo_zero]; exact rfl, rfl, rfl, rfl, trivial⟩ ?_
  rintro k c cp w' ⟨hk, hx', hO'⟩
  have hl := inTo_len n k hk
  have hcl := cnt_le n k
  by_cases hlt : k < n.length
  · obtain ⟨x, hxn⟩ := getI n hlt
    by_cases hin : x.1 < 0
    · have e1 := inTo_yes hxn hin
      repeat' (first
        | (apply WL.gT; exact rfl; exact rfl; (focus (first | exact dec_true (by omega); done)))
        | (apply WL.gF; exact rfl; exact rfl; (focus (first | exact dec_true (by omega); done)))
        | (apply W.condKT; exact rfl; (focus (first | exact dec_true (by omega); done)))
        | (apply W.condKF; exact rfl; (focus (first | exact dec_true (by omega); done)))
        | (apply WL.alloc tOk; exact rfl; exact rfl; exact rfl; intro gb w' hb hge hx)
        | (apply WL.storeB (w0 := w) tOk; exact rfl; exact rfl; exact rfl; exact rfl; assumption; (exact extA); exact rfl; exact rfl; exact rfl; (exact extA); (first | assumption | omega | (focus (apply Nat.le_trans; rotate_left; assumption; exact Below.size (by (exact extA)); done))); intro w' hb hc hX' hU; have hcc := hc; obtain ⟨h1, h2, _⟩ := hc; have hO3 := Upd.own hU (Own.ext hO' hx) (Own.blk_ne hO' hge))
        | (apply WL.lit tOk; exact rfl; exact rfl; exact rfl; exact rfl; exact rfl; exact rfl; (first | exact rfl | kernel_rfl | (simp [Instr.fill, catCells]; done)); exact rfl; intro gb w' hb hge hc hx)
        | (apply WL.append1 (z := (((k + 1 : Nat) : Int))) tOk encI_ok; exact rfl; exact rfl; exact rfl; exact rfl; exact rfl; exact rfl; exact rfl; exact rfl; exact rfl; exact rfl; assumption; (exact extA); (first | exact rfl | (simp; done) | (simp [*]; done) | omega | (simp only [List.length_set]; omega)); assumption; exact rfl; exact rfl; (exact extA); (first | omega | (simp; omega) | (simp at *; omega)); intro a' cap' w' hO hX' hU hF)
        | (show WL _ _ _ _ _ _ _; first | apply WL.nil | (apply WL.pev tOk; exact rfl; exact rfl; exact rfl) | (apply WL.load tOk; exact rfl; exact rfl; exact rfl; exact rfl; exact rfl; (first | assumption | (focus (apply Ext.cell; rotate_left; assumption; (exact extA); done)))) | (apply WL.index tOk; exact rfl; exact rfl; exact rfl; exact rfl; exact rfl; exact rfl; exact rfl; exact rfl; assumption; (exact extA); exact rfl; omega; assumption; intro b off h; have hcc := h; first | (obtain ⟨h1, h2, h3, h4, h5, h6, _⟩ := h) | (obtain ⟨h1, h2, h3, _⟩ := h) | (obtain ⟨h1, h2, _⟩ := h) | (obtain ⟨h1, _⟩ := h)) | (apply WL.add; exact rfl; exact rfl; exact rfl; exact rfl; omega) | (apply WL.sub; exact rfl; exact rfl; exact rfl; exact rfl; omega) | (apply WL.mul; exact rfl; exact rfl; exact rfl; exact rfl; omega) | (apply WL.quo; exact rfl; exact rfl; exact rfl; exact rfl; omega) | (apply WL.rem; exact rfl; exact rfl; exact rfl; exact rfl; omega) | (apply WL.loadA tOk; exact rfl; exact rfl; exact rfl; exact rfl; exact rfl; (first | assumption | (focus (apply Cells.ext; rotate_left; assumption; (exact extA); done))); exact rfl) | (apply WL.guardF; exact rfl; exact rfl) | (apply WL.gD; exact rfl; exact rfl; all_goals intro _) | (apply WL.gN; exact rfl; exact rfl; all_goals intro _) | (apply WL.gB; exact rfl; exact rfl; all_goals intro _))
        | (show Z _ _ _ _ _; first | apply Z.tail | apply Z.then_normal | apply Z.block_normal | apply Z.then_exit | apply Z.block_exit | apply Z.then_ret | apply Z.block_ret | (apply Z.block_other; exact rfl))
        | (show W _ _ _ _ _ _; first | apply W.seq | apply W.region | apply W.block | apply W.skip | apply W.ret | apply W.exit | (apply W.condT; exact rfl) | (apply W.condF; exact rfl) | (apply W.condD; exact rfl; all_goals intro _) | (apply W.condN; exact rfl; all_goals intro _) | (apply W.condB; exact rfl; all_goals intro _)))
      exact Z.againO a' cap' ⟨by omega, hX', by rw [e1]; exact hO⟩ (by repeat' first | exact trivial | (refine And.intro ?_ ?_) | exact rfl | (rw [e1]; exact rfl))
    · have e1 := inTo_no hxn hin
      repeat' (first
        | (apply WL.gT; exact rfl; exact rfl; (focus (first | exact dec_true (by omega) | exact dec_false (by omega); done)))
        | (apply WL.gF; exact rfl; exact rfl; (focus (first | exact dec_true (by omega) | exact dec_false (by omega); done)))
        | (apply W.condKT; exact rfl; (focus (first | exact dec_true (by omega) | exact dec_false (by omega); done)))
        | (apply W.condKF; exact rfl; (focus (first | exact dec_true (by omega) | exact dec_false (by omega); done)))
        | (apply WL.alloc tOk; exact rfl; exact rfl; exact rfl; intro gb w' hb hge hx)
        | (apply WL.storeB (w0 := w) tOk; exact rfl; exact rfl; exact rfl; exact rfl; assumption; (exact extA); exact rfl; exact rfl; exact rfl; (exact extA); (first | assumption | omega | (focus (apply Nat.le_trans; rotate_left; assumption; exact Below.size (by (exact extA)); done))); intro w' hb hc hX' hU; have hcc := hc; obtain ⟨h1, h2, _⟩ := hc; have hO3 := Upd.own hU (Own.ext hO' hx) (Own.blk_ne hO' hge))
        | (show WL _ _ _ _ _ _ _; first | apply WL.nil | (apply WL.pev tOk; exact rfl; exact rfl; exact rfl) | (apply WL.load tOk; exact rfl; exact rfl; exact rfl; exact rfl; exact rfl; (first | assumption | (focus (apply Ext.cell; rotate_left; assumption; (exact extA); done)))) | (apply WL.index tOk; exact rfl; exact rfl; exact rfl; exact rfl; exact rfl; exact rfl; exact rfl; exact rfl; assumption; (exact extA); exact rfl; omega; assumption; intro b off h; have hcc := h; first | (obtain ⟨h1, h2, h3, h4, h5, h6, _⟩ := h) | (obtain ⟨h1, h2, h3, _⟩ := h) | (obtain ⟨h1, h2, _⟩ := h) | (obtain ⟨h1, _⟩ := h)) | (apply WL.add; exact rfl; exact rfl; exact rfl; exact rfl; omega) | (apply WL.sub; exact rfl; exact rfl; exact rfl; exact rfl; omega) | (apply WL.mul; exact rfl; exact rfl; exact rfl; exact rfl; omega) | (apply WL.quo; exact rfl; exact rfl; exact rfl; exact rfl; omega) | (apply WL.rem; exact rfl; exact rfl; exact rfl; exact rfl; omega) | (apply WL.loadA tOk; exact rfl; exact rfl; exact rfl; exact rfl; exact rfl; (first | assumption | (focus (apply Cells.ext; rotate_left; assumption; (exact extA); done))); exact rfl) | (apply WL.guardF; exact rfl; exact rfl) | (apply WL.gD; exact rfl; exact rfl; all_goals intro _) | (apply WL.gN; exact rfl; exact rfl; all_goals intro _) | (apply WL.gB; exact rfl; exact rfl; all_goals intro _))
        | (show Z _ _ _ _ _; first | apply Z.tail | apply Z.then_normal | apply Z.block_normal | apply Z.then_exit | apply Z.block_exit | apply Z.then_ret | apply Z.block_ret | (apply Z.block_other; exact rfl))
        | (show W _ _ _ _ _ _; first | apply W.seq | apply W.region | apply W.block | apply W.skip | apply W.ret | apply W.exit | (apply W.condT; exact rfl) | (apply W.condF; exact rfl) | (apply W.condD; exact rfl; all_goals intro _) | (apply W.condN; exact rfl; all_goals intro _) | (apply W.condB; exact rfl; all_goals intro _)))
      exact Z.againO c cp ⟨by omega, hX', by rw [e1]; exact hO3⟩ (by repeat' first | exact trivial | (refine And.intro ?_ ?_) | exact rfl | (rw [e1]; exact rfl))
  · repeat' (first
      | (apply WL.gT; exact rfl; exact rfl; (focus (exact dec_false (by omega); done)))
      | (apply WL.gF; exact rfl; exact rfl; (focus (exact dec_false (by omega); done)))
      | (apply W.condKT; exact rfl; (focus (exact dec_false (by omega); done)))
      | (apply W.condKF; exact rfl; (focus (exact dec_false (by omega); done)))
      | (show WL _ _ _ _ _ _ _; first | apply WL.nil | (apply WL.pev tOk; exact rfl; exact rfl; exact rfl) | (apply WL.load tOk; exact rfl; exact rfl; exact rfl; exact rfl; exact rfl; (first | assumption | (focus (apply Ext.cell; rotate_left; assumption; (exact extA); done)))) | (apply WL.index tOk; exact rfl; exact rfl; exact rfl; exact rfl; exact rfl; exact rfl; exact rfl; exact rfl; assumption; (exact extA); exact rfl; omega; assumption; intro b off h; have hcc := h; first | (obtain ⟨h1, h2, h3, h4, h5, h6, _⟩ := h) | (obtain ⟨h1, h2, h3, _⟩ := h) | (obtain ⟨h1, h2, _⟩ := h) | (obtain ⟨h1, _⟩ := h)) | (apply WL.add; exact rfl; exact rfl; exact rfl; exact rfl; omega) | (apply WL.sub; exact rfl; exact rfl; exact rfl; exact rfl; omega) | (apply WL.mul; exact rfl; exact rfl; exact rfl; exact rfl; omega) | (apply WL.quo; exact rfl; exact rfl; exact rfl; exact rfl; omega) | (apply WL.rem; exact rfl; exact rfl; exact rfl; exact rfl; omega) | (apply WL.loadA tOk; exact rfl; exact rfl; exact rfl; exact rfl; exact rfl; (first | assumption | (focus (apply Cells.ext; rotate_left; assumption; (exact extA); done))); exact rfl) | (apply WL.guardF; exact rfl; exact rfl) | (apply WL.gD; exact rfl; exact rfl; all_goals intro _) | (apply WL.gN; exact rfl; exact rfl; all_goals intro _) | (apply WL.gB; exact rfl; exact rfl; all_goals intro _))
      | (show Z _ _ _ _ _; first | apply Z.tail | apply Z.then_normal | apply Z.block_normal | apply Z.then_exit | apply Z.block_exit | apply Z.then_ret | apply Z.block_ret | (apply Z.block_other; exact rfl))
      | (show W _ _ _ _ _ _; first | apply W.seq | apply W.region | apply W.block | apply W.skip | apply W.ret | apply W.exit | (apply W.condT; exact rfl) | (apply W.condF; exact rfl) | (apply W.condD; exact rfl; all_goals intro _) | (apply W.condN; exact rfl; all_goals intro _) | (apply W.condB; exact rfl; all_goals intro _)))
    obtain rfl : k = n.length := by omega
    exact Z.body1 Try.results93 rfl fun m => ⟨hx'.at m, c, cp, rfl, hO'⟩

end Go.Proofs.Ytfkdlepemiepdaa
