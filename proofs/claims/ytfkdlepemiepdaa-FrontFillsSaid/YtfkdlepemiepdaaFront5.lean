/- Open gates, and where literals lead: the laws FrontTells and FrontLeads. No conditions. -/
import Derived.Test.YtfkdlepemiepdaaFront4
import Derived.Test.YtfkdlepemiepdaaCone1
namespace Go.Proofs.Ytfkdlepemiepdaa
open Go Go.Lt Go.RowKit
set_option linter.unusedVariables false
set_option linter.unusedSimpArgs false

theorem trace_leads {n : List (Int × Int)} {vals : List Int} (hg : GoodNet n) : ∀ (f : Nat) (l : Int), 0 < traceT n vals f l →
    2 ≤ l ∧ l / 2 ≤ n.length ∧ 2 ≤ traceT n vals f l ∧ traceT n vals f l / 2 ≤ l / 2 ∧ lit3 vals (traceT n vals f l) = 2 ∧ Hang n (l / 2).toNat (traceT n vals f l / 2).toNat ∧ ∃ x, n[(traceT n vals f l / 2 - 1).toNat]? = some x ∧ x.1 < 0
  | 0, l, h => by rw [traceT] at h; omega
  | f + 1, l, h => by
    by_cases hok : l < 2 ∨ (n.length : Int) < l / 2 ∨ lit3 vals l ≠ 2
    · rw [traceT_no hok] at h; omega
    · obtain ⟨x, hx⟩ := getI n (show (l / 2 - 1).toNat < n.length by omega)
      have h2 : lit3 vals l = 2 := by
        by_cases h2 : lit3 vals l = 2
        · exact h2
        · exact absurd (.inr (.inr h2)) hok
      by_cases hi : x.1 < 0
      · rw [traceT_in hok hx hi]
        exact ⟨by omega, by omega, by omega, by omega, h2, .refl _, x, hx, hi⟩
      · rw [traceT_gate hok hx hi] at h ⊢
        obtain ⟨i1, i2, i3, i4, i5, i6, i7⟩ := trace_leads hg f _ h
        have hfl := freeL_le hg hx hi vals
        have hxl := xorI_le (k := ((l / 2 - 1).toNat : Int)) hfl (show l % 2 = 0 ∨ l % 2 = 1 by omega)
        have hkid : Kid n (l / 2).toNat (xorI (freeL vals x) (l % 2) / 2).toNat := by
          refine ⟨(l / 2 - 1).toNat, x, by omega, hx, by omega, ?_⟩
          have hh : (xorI (freeL vals x) (l % 2) / 2) = freeL vals x / 2 := by
            unfold xorI Lt.xor1
            split
            · split <;> omega
            · rfl
          rw [hh]; unfold freeL; split
          · exact .inl rfl
          · exact .inr rfl
        exact ⟨by omega, by omega, i3, by omega, i5, .step hkid i6, i7⟩

theorem trace_nn (n : List (Int × Int)) (vals : List Int) : ∀ (f : Nat) (l : Int), 0 ≤ traceT n vals f l
  | 0, l => by rw [traceT]; exact Int.le_refl _
  | f + 1, l => by
    by_cases hok : l < 2 ∨ (n.length : Int) < l / 2 ∨ lit3 vals l ≠ 2
    · rw [traceT_no hok]; exact Int.le_refl _
    · obtain ⟨x, hx⟩ := getI n (show (l / 2 - 1).toNat < n.length by omega)
      by_cases hi : x.1 < 0
      · rw [traceT_in hok hx hi]; omega
      · rw [traceT_gate hok hx hi]; exact trace_nn n vals f _
abbrev live23 : List (Int × Int) := [(-1, 0), (-1, 0), (2, 4)]
abbrev vals23 : List Int := [0, 2, 2, 0]
theorem good23 : GoodNet live23 := by
  intro i x h
  match i, h with
  | 0, h => cases h; unfold badNode; decide
  | 1, h => cases h; unfold badNode; decide
  | 2, h => cases h; unfold badNode; decide
theorem v23_2 : lit3 vals23 2 = 2 := by decide
theorem v23_3 : lit3 vals23 3 = 2 := by decide
theorem v23_4 : lit3 vals23 4 = 2 := by decide
theorem v23_6 : lit3 vals23 6 = 0 := by decide
theorem opens23 : opens live23 vals23 = [3] := by
  show opTo live23 vals23 3 = [3]
  rw [opTo_yes (k := 2) (x := (2, 4)) rfl ⟨by decide, .inl ⟨v23_6, by rw [v23_2]; decide, by rw [v23_4]; decide⟩⟩]
  rw [opTo_no (k := 1) (x := (-1, 0)) rfl (fun h => absurd h.1 (by decide)), opTo_no (k := 0) (x := (-1, 0)) rfl (fun h => absurd h.1 (by decide)), opTo_zero]; rfl
theorem trace23 : trace live23 vals23 3 = 3 := by
  rw [trace]
  exact traceT_in (l := 3) (x := (-1, 0)) (by rw [v23_3]; decide) rfl (by decide) _
theorem pick23 : pick live23 vals23 [] = 3 := by
  unfold pick
  rw [opens23]
  have h1 : pTo vals23 [] [3] 1 = (3, 0) := by
    show pstep vals23 [] (0, 0) 3 = (3, 0)
    unfold pstep
    rw [show (2 * (3 : Int)) = 6 from rfl, v23_6]; rfl
  show (if 0 < (pTo vals23 [] [3] 1).1 then trace live23 vals23 (Lt.xor1 (freeV live23 vals23 (pTo vals23 [] [3] 1).1)) else _) = _
  rw [h1]
  have h2 : freeV live23 vals23 3 = 2 := by
    show freeL vals23 (2, 4) = 2
    unfold freeL; rw [v23_2]; rfl
  show trace live23 vals23 (Lt.xor1 (freeV live23 vals23 3)) = 3
  rw [h2]; exact trace23

set_option maxHeartbeats 4000000 in
theorem lives23 (w : World) : Pure Try.prog 18 [] w (.bool true) := by
  have hp : (0 : Int) < pick live23 vals23 [] := by rw [pick23]; decide
  refine Spec.of _ Try.func18 rfl Try.ntmps18 (by kernel_rfl) rfl ?_
  repeat' (first
    | (apply WL.build tOk; exact rfl; exact rfl; exact rfl; exact rfl; exact rfl; exact rfl; exact rfl; kernel_rfl)
    | (apply WL.lit tOk; exact rfl; exact rfl; exact rfl; exact rfl; exact rfl; exact rfl; (first | exact rfl | kernel_rfl | (simp [Instr.fill, catCells]; done)); exact rfl; intro gb w' hb hge hc hx; have hO := Own.of_block (live23) encN_ok hb hge rfl)
    | (show WL _ _ _ _ _ _ _; first | apply WL.nil | (apply WL.pev tOk; exact rfl; exact rfl; exact rfl) | (apply WL.load tOk; exact rfl; exact rfl; exact rfl; exact rfl; exact rfl; (first | assumption | (focus (apply Ext.cell; rotate_left; assumption; (exact extA); done)))) | (apply WL.index tOk; exact rfl; exact rfl; exact rfl; exact rfl; exact rfl; exact rfl; exact rfl; exact rfl; assumption; (exact extA); exact rfl; omega; assumption; intro b off h; have hcc := h; first | (obtain ⟨h1, h2, h3, h4, h5, h6, _⟩ := h) | (obtain ⟨h1, h2, h3, _⟩ := h) | (obtain ⟨h1, h2, _⟩ := h) | (obtain ⟨h1, _⟩ := h)) | (apply WL.add; exact rfl; exact rfl; exact rfl; exact rfl; omega) | (apply WL.sub; exact rfl; exact rfl; exact rfl; exact rfl; omega) | (apply WL.mul; exact rfl; exact rfl; exact rfl; exact rfl; omega) | (apply WL.quo; exact rfl; exact rfl; exact rfl; exact rfl; omega) | (apply WL.rem; exact rfl; exact rfl; exact rfl; exact rfl; omega) | (apply WL.loadA tOk; exact rfl; exact rfl; exact rfl; exact rfl; exact rfl; (first | assumption | (focus (apply Cells.ext; rotate_left; assumption; (exact extA); done))); exact rfl) | (apply WL.guardF; exact rfl; exact rfl) | (apply WL.gD; exact rfl; exact rfl; all_goals intro _) | (apply WL.gN; exact rfl; exact rfl; all_goals intro _) | (apply WL.gB; exact rfl; exact rfl; all_goals intro _))
    | (show Z _ _ _ _ _; first | apply Z.tail | apply Z.then_normal | apply Z.block_normal | apply Z.then_exit | apply Z.block_exit | apply Z.then_ret | apply Z.block_ret | (apply Z.block_other; exact rfl))
    | (show W _ _ _ _ _ _; first | apply W.seq | apply W.region | apply W.block | apply W.skip | apply W.ret | apply W.exit | (apply W.condT; exact rfl) | (apply W.condF; exact rfl) | (apply W.condD; exact rfl; all_goals intro _) | (apply W.condN; exact rfl; all_goals intro _) | (apply W.condB; exact rfl; all_goals intro _)))
  have Rn := Own.row encN_ok hO
  obtain ⟨g1, rfl⟩ : ∃ x, x = gb := ⟨_, rfl⟩; obtain ⟨w1, rfl⟩ : ∃ x, x = w' := ⟨_, rfl⟩
  have hx1 := hx
  repeat' (first
    | (apply WL.lit tOk; exact rfl; exact rfl; exact rfl; exact rfl; exact rfl; exact rfl; (first | exact rfl | kernel_rfl | (simp [Instr.fill, catCells]; done)); exact rfl; intro gb w' hb hge hc hx; have hO := Own.of_block (vals23) encI_ok hb hge rfl)
    | (show WL _ _ _ _ _ _ _; first | apply WL.nil | (apply WL.pev tOk; exact rfl; exact rfl; exact rfl) | (apply WL.load tOk; exact rfl; exact rfl; exact rfl; exact rfl; exact rfl; (first | assumption | (focus (apply Ext.cell; rotate_left; assumption; (exact extA); done)))) | (apply WL.index tOk; exact rfl; exact rfl; exact rfl; exact rfl; exact rfl; exact rfl; exact rfl; exact rfl; assumption; (exact extA); exact rfl; omega; assumption; intro b off h; have hcc := h; first | (obtain ⟨h1, h2, h3, h4, h5, h6, _⟩ := h) | (obtain ⟨h1, h2, h3, _⟩ := h) | (obtain ⟨h1, h2, _⟩ := h) | (obtain ⟨h1, _⟩ := h)) | (apply WL.add; exact rfl; exact rfl; exact rfl; exact rfl; omega) | (apply WL.sub; exact rfl; exact rfl; exact rfl; exact rfl; omega) | (apply WL.mul; exact rfl; exact rfl; exact rfl; exact rfl; omega) | (apply WL.quo; exact rfl; exact rfl; exact rfl; exact rfl; omega) | (apply WL.rem; exact rfl; exact rfl; exact rfl; exact rfl; omega) | (apply WL.loadA tOk; exact rfl; exact rfl; exact rfl; exact rfl; exact rfl; (first | assumption | (focus (apply Cells.ext; rotate_left; assumption; (exact extA); done))); exact rfl) | (apply WL.guardF; exact rfl; exact rfl) | (apply WL.gD; exact rfl; exact rfl; all_goals intro _) | (apply WL.gN; exact rfl; exact rfl; all_goals intro _) | (apply WL.gB; exact rfl; exact rfl; all_goals intro _))
    | (show Z _ _ _ _ _; first | apply Z.tail | apply Z.then_normal | apply Z.block_normal | apply Z.then_exit | apply Z.block_exit | apply Z.then_ret | apply Z.block_ret | (apply Z.block_other; exact rfl))
    | (show W _ _ _ _ _ _; first | apply W.seq | apply W.region | apply W.block | apply W.skip | apply W.ret | apply W.exit | (apply W.condT; exact rfl) | (apply W.condF; exact rfl) | (apply W.condD; exact rfl; all_goals intro _) | (apply W.condN; exact rfl; all_goals intro _) | (apply W.condB; exact rfl; all_goals intro _)))
  have Rv := Own.row encI_ok hO
  obtain ⟨g2, rfl⟩ : ∃ x, x = gb := ⟨_, rfl⟩; obtain ⟨w2, rfl⟩ : ∃ x, x = w' := ⟨_, rfl⟩
  have hx2 : Ext w w2 := (by (exact extA))
  have hx12 : Ext w1 w2 := (by (exact extA))
  repeat' (first
    | (apply WL.lit tOk; exact rfl; exact rfl; exact rfl; exact rfl; exact rfl; exact rfl; (first | exact rfl | kernel_rfl | (simp [Instr.fill, catCells]; done)); exact rfl; intro gb w' hb hge hc hx; have hO := Own.of_block ([(3 : Int)]) encI_ok hb hge rfl)
    | ((show WL _ _ _ (⟨_, .call ⟨.value (.func 20), _, _⟩, _, _, _, _⟩ :: _) _ _ _); apply WL.callP; exact rfl; exact rfl; exact rfl; exact rfl; exact front_Pick (some ⟨g1, 0, none⟩) (some ⟨g2, 0, none⟩) none 3 4 0 live23 vals23 [] _ good23 (by decide) (Rn.ext (by (exact extA))) (Rv.ext (by (exact extA))) (Row.nil _ _ _ _); intro w' hx)
    | ((show WL _ _ _ (⟨_, .call ⟨.value (.func 24), _, _⟩, _, _, _, _⟩ :: _) _ _ _); apply WL.call; exact rfl; exact rfl; exact rfl; exact rfl; exact front_Open (some ⟨g1, 0, none⟩) (some ⟨g2, 0, none⟩) 3 4 live23 vals23 _ (Rn.ext (by (exact extA))) (Rv.ext (by (exact extA))) (by decide); rintro v' w' ⟨hx, a', cap', rfl, hO⟩)
    | ((show WL _ _ _ (⟨_, .call ⟨.value (.func 23), _, _⟩, _, _, _, _⟩ :: _) _ _ _); apply WL.callS; exact rfl; exact rfl; exact rfl; exact rfl; exact ref_Ints _ _ _ _ (opens live23 vals23) [3] _ (Row.ext (Own.row encI_ok (by assumption)) (by (exact extA))) (Own.row encI_ok (by assumption)))
    | (apply WL.gT; exact rfl; exact rfl; (focus (first | exact dec_true opens23 | exact dec_true pick23 | exact dec_true hp; done)))
    | (apply WL.gF; exact rfl; exact rfl; (focus (first | exact dec_true opens23 | exact dec_true pick23 | exact dec_true hp; done)))
    | (apply W.condKT; exact rfl; (focus (first | exact dec_true opens23 | exact dec_true pick23 | exact dec_true hp; done)))
    | (apply W.condKF; exact rfl; (focus (first | exact dec_true opens23 | exact dec_true pick23 | exact dec_true hp; done)))
    | (show WL _ _ _ _ _ _ _; first | apply WL.nil | (apply WL.pev tOk; exact rfl; exact rfl; exact rfl) | (apply WL.load tOk; exact rfl; exact rfl; exact rfl; exact rfl; exact rfl; (first | assumption | (focus (apply Ext.cell; rotate_left; assumption; (exact extA); done)))) | (apply WL.index tOk; exact rfl; exact rfl; exact rfl; exact rfl; exact rfl; exact rfl; exact rfl; exact rfl; assumption; (exact extA); exact rfl; omega; assumption; intro b off h; have hcc := h; first | (obtain ⟨h1, h2, h3, h4, h5, h6, _⟩ := h) | (obtain ⟨h1, h2, h3, _⟩ := h) | (obtain ⟨h1, h2, _⟩ := h) | (obtain ⟨h1, _⟩ := h)) | (apply WL.add; exact rfl; exact rfl; exact rfl; exact rfl; omega) | (apply WL.sub; exact rfl; exact rfl; exact rfl; exact rfl; omega) | (apply WL.mul; exact rfl; exact rfl; exact rfl; exact rfl; omega) | (apply WL.quo; exact rfl; exact rfl; exact rfl; exact rfl; omega) | (apply WL.rem; exact rfl; exact rfl; exact rfl; exact rfl; omega) | (apply WL.loadA tOk; exact rfl; exact rfl; exact rfl; exact rfl; exact rfl; (first | assumption | (focus (apply Cells.ext; rotate_left; assumption; (exact extA); done))); exact rfl) | (apply WL.guardF; exact rfl; exact rfl) | (apply WL.gD; exact rfl; exact rfl; all_goals intro _) | (apply WL.gN; exact rfl; exact rfl; all_goals intro _) | (apply WL.gB; exact rfl; exact rfl; all_goals intro _))
    | (show Z _ _ _ _ _; first | apply Z.tail | apply Z.then_normal | apply Z.block_normal | apply Z.then_exit | apply Z.block_exit | apply Z.then_ret | apply Z.block_ret | (apply Z.block_other; exact rfl))
    | (show W _ _ _ _ _ _; first | apply W.seq | apply W.region | apply W.block | apply W.skip | apply W.ret | apply W.exit | (apply W.condT; exact rfl) | (apply W.condF; exact rfl) | (apply W.condD; exact rfl; all_goals intro _) | (apply W.condN; exact rfl; all_goals intro _) | (apply W.condB; exact rfl; all_goals intro _)))
  all_goals exact Z.body1 Try.results18 rfl fun m => ⟨by first | rfl | (rw [dec_true hp]; done), Ext.at (by (exact extA)) m⟩

set_option maxHeartbeats 4000000 in
theorem law_FrontTells (a b c : Option Addr) (cap cb cc : Nat) (n : List (Int × Int)) (vals prio : List Int) (l : Int) (w : World) (R : Row 2 encN w a n) (Rb : Row 1 encI w b vals) (Rc : Row 1 encI w c prio)
    (hnb : b = none → cb = 0) (hnc : c = none → cc = 0) (hl : inI64 l) :
    Pure Try.prog 3 [.slice a n.length cap, .slice b vals.length cb, .slice c prio.length cc, .int .i64 l] w (.bool true) := by
  have hlb := Rb.len
  have hlc := Rc.len
  by_cases hsm : ((n.length ≤ 80 ∧ GoodNet n) ∧ vals.length ≤ 200) ∧ prio.length ≤ 200
  · have hg := hsm.1.1.2
    have hn := hsm.1.1.1
    have hi := hsm.1.2
    have hp := hsm.2
    have hol : (opens n vals).length ≤ n.length := opTo_len n vals n.length (Nat.le_refl _)
    refine Spec.of _ Try.func3 rfl Try.ntmps3 (by kernel_rfl) rfl ?_
    repeat' (first
      | ((show WL _ _ _ (⟨_, .call ⟨.value (.func 17), _, _⟩, _, _, _, _⟩ :: _) _ _ _); apply WL.callS; exact rfl; exact rfl; exact rfl; exact rfl; exact law07_Small _ _ _ _ _ R (by omega))
      | (apply WL.gT; exact rfl; exact rfl; (focus (first | exact dec_true ⟨by omega, hg⟩ | exact dec_false (by omega) | exact dec_true rfl | exact dec_false (fun h => h rfl); done)))
      | (apply WL.gF; exact rfl; exact rfl; (focus (first | exact dec_true ⟨by omega, hg⟩ | exact dec_false (by omega) | exact dec_true rfl | exact dec_false (fun h => h rfl); done)))
      | (apply W.condKT; exact rfl; (focus (first | exact dec_true ⟨by omega, hg⟩ | exact dec_false (by omega) | exact dec_true rfl | exact dec_false (fun h => h rfl); done)))
      | (apply W.condKF; exact rfl; (focus (first | exact dec_true ⟨by omega, hg⟩ | exact dec_false (by omega) | exact dec_true rfl | exact dec_false (fun h => h rfl); done)))
      | (apply WL.lit (len := 0) tOk; exact rfl; exact rfl; exact rfl; exact rfl; exact rfl; exact rfl; (first | exact rfl | kernel_rfl | (simp [Instr.fill, catCells]; done)); exact rfl; intro gb w' hb hge hc hx; have hO0 := Own.of_block0 (enc := encI) (s := 1) hb hge)
      | (apply WL.appendS tOk encI_ok; exact rfl; exact rfl; exact rfl; exact rfl; exact rfl; exact rfl; exact rfl; exact rfl; exact rfl; exact rfl; assumption; (exact extA); (first | exact rfl | (simp; done) | (simp [*]; done) | omega | (simp only [List.length_set]; omega)); assumption; (exact extA); (first | exact rfl | (simp; done) | (simp [*]; done) | omega | (simp only [List.length_set]; omega)); (first | assumption | (intro h; cases h) | exact Own.noneCap (by assumption)); exact rfl; (exact extA); (first | omega | (simp; omega) | (simp at *; omega)); intro a' cap' w' hO hX' hU hF)
      | ((show WL _ _ _ (⟨_, .call ⟨.value (.func 19), _, _⟩, _, _, _, _⟩ :: _) _ _ _); apply WL.callP; exact rfl; exact rfl; exact rfl; exact rfl; exact front_Trace _ _ _ _ n vals l _ hg (by omega) hl.2 (R.ext (by (exact extA))) (Row.ext (Own.row encI_ok (by assumption)) (by (exact extA))); intro w' hx)
      | ((show WL _ _ _ (⟨_, .call ⟨.value (.func 20), _, _⟩, _, _, _, _⟩ :: _) _ _ _); apply WL.callP; exact rfl; exact rfl; exact rfl; exact rfl; exact front_Pick _ _ _ _ _ _ n vals prio _ hg (by omega) (R.ext (by (exact extA))) (Row.ext (Own.row encI_ok (by assumption)) (by (exact extA))) (Row.ext (Own.row encI_ok (by assumption)) (by (exact extA))); intro w' hx)
      | ((show WL _ _ _ (⟨_, .call ⟨.value (.func 21), _, _⟩, _, _, _, _⟩ :: _) _ _ _); apply WL.callS; exact rfl; exact rfl; exact rfl; exact rfl; exact ref23_Trace _ _ _ _ n vals l _ hg (by omega) hl.2 (R.ext (by (exact extA))) (Rb.ext (by (exact extA))))
      | ((show WL _ _ _ (⟨_, .call ⟨.value (.func 22), _, _⟩, _, _, _, _⟩ :: _) _ _ _); apply WL.callP; exact rfl; exact rfl; exact rfl; exact rfl; exact ref23_Pick _ _ _ _ _ _ n vals prio _ hg (by omega) (R.ext (by (exact extA))) (Rb.ext (by (exact extA))) (Rc.ext (by (exact extA))); intro w' hx)
      | ((show WL _ _ _ (⟨_, .call ⟨.value (.func 24), _, _⟩, _, _, _, _⟩ :: _) _ _ _); apply WL.call; exact rfl; exact rfl; exact rfl; exact rfl; exact front_Open _ _ _ _ n vals _ (R.ext (by (exact extA))) (Rb.ext (by (exact extA))) (by omega); rintro v' w' ⟨hx, a', cap', rfl, hO⟩)
      | ((show WL _ _ _ (⟨_, .call ⟨.value (.func 25), _, _⟩, _, _, _, _⟩ :: _) _ _ _); apply WL.call; exact rfl; exact rfl; exact rfl; exact rfl; exact ref23_Open _ _ _ _ n vals _ (R.ext (by (exact extA))) (Rb.ext (by (exact extA))) (by omega); rintro v' w' ⟨hx, a', cap', rfl, hO⟩)
      | ((show WL _ _ _ (⟨_, .call ⟨.value (.func 23), _, _⟩, _, _, _, _⟩ :: _) _ _ _); apply WL.callS; exact rfl; exact rfl; exact rfl; exact rfl; exact ref_Ints _ _ _ _ (opens n vals) (opens n vals) _ (Row.ext (Own.row encI_ok (by assumption)) (by (exact extA))) (Own.row encI_ok (by assumption)))
      | ((show WL _ _ _ (⟨_, .call ⟨.value (.func 18), _, _⟩, _, _, _, _⟩ :: _) _ _ _); apply WL.callP; exact rfl; exact rfl; exact rfl; exact rfl; exact lives23 _; intro w' hx)
      | (show WL _ _ _ _ _ _ _; first | apply WL.nil | (apply WL.pev tOk; exact rfl; exact rfl; exact rfl) | (apply WL.load tOk; exact rfl; exact rfl; exact rfl; exact rfl; exact rfl; (first | assumption | (focus (apply Ext.cell; rotate_left; assumption; (exact extA); done)))) | (apply WL.index tOk; exact rfl; exact rfl; exact rfl; exact rfl; exact rfl; exact rfl; exact rfl; exact rfl; assumption; (exact extA); exact rfl; omega; assumption; intro b off h; have hcc := h; first | (obtain ⟨h1, h2, h3, h4, h5, h6, _⟩ := h) | (obtain ⟨h1, h2, h3, _⟩ := h) | (obtain ⟨h1, h2, _⟩ := h) | (obtain ⟨h1, _⟩ := h)) | (apply WL.add; exact rfl; exact rfl; exact rfl; exact rfl; omega) | (apply WL.sub; exact rfl; exact rfl; exact rfl; exact rfl; omega) | (apply WL.mul; exact rfl; exact rfl; exact rfl; exact rfl; omega) | (apply WL.quo; exact rfl; exact rfl; exact rfl; exact rfl; omega) | (apply WL.rem; exact rfl; exact rfl; exact rfl; exact rfl; omega) | (apply WL.loadA tOk; exact rfl; exact rfl; exact rfl; exact rfl; exact rfl; (first | assumption | (focus (apply Cells.ext; rotate_left; assumption; (exact extA); done))); exact rfl) | (apply WL.guardF; exact rfl; exact rfl) | (apply WL.gD; exact rfl; exact rfl; all_goals intro _) | (apply WL.gN; exact rfl; exact rfl; all_goals intro _) | (apply WL.gB; exact rfl; exact rfl; all_goals intro _))
      | (show Z _ _ _ _ _; first | apply Z.tail | apply Z.then_normal | apply Z.block_normal | apply Z.then_exit | apply Z.block_exit | apply Z.then_ret | apply Z.block_ret | (apply Z.block_other; exact rfl))
      | (show W _ _ _ _ _ _; first | apply W.seq | apply W.region | apply W.block | apply W.skip | apply W.ret | apply W.exit | (apply W.condT; exact rfl) | (apply W.condF; exact rfl) | (apply W.condD; exact rfl; all_goals intro _) | (apply W.condN; exact rfl; all_goals intro _) | (apply W.condB; exact rfl; all_goals intro _)))
    all_goals exact Z.body1 Try.results3 rfl fun m => ⟨rfl, Ext.at (by (exact extA)) m⟩
  · refine Spec.of _ Try.func3 rfl Try.ntmps3 (by kernel_rfl) rfl ?_
    repeat' (first
      | ((show WL _ _ _ (⟨_, .call ⟨.value (.func 17), _, _⟩, _, _, _, _⟩ :: _) _ _ _); apply WL.callS; exact rfl; exact rfl; exact rfl; exact rfl; exact law07_Small _ _ _ _ _ R (by omega))
      | ((show WL _ _ _ (⟨_, .call ⟨.value (.func 18), _, _⟩, _, _, _, _⟩ :: _) _ _ _); apply WL.callP; exact rfl; exact rfl; exact rfl; exact rfl; exact lives23 _; intro w' hx)
      | (show WL _ _ _ _ _ _ _; first | apply WL.nil | (apply WL.pev tOk; exact rfl; exact rfl; exact rfl) | (apply WL.load tOk; exact rfl; exact rfl; exact rfl; exact rfl; exact rfl; (first | assumption | (focus (apply Ext.cell; rotate_left; assumption; (exact extA); done)))) | (apply WL.index tOk; exact rfl; exact rfl; exact rfl; exact rfl; exact rfl; exact rfl; exact rfl; exact rfl; assumption; (exact extA); exact rfl; omega; assumption; intro b off h; have hcc := h; first | (obtain ⟨h1, h2, h3, h4, h5, h6, _⟩ := h) | (obtain ⟨h1, h2, h3, _⟩ := h) | (obtain ⟨h1, h2, _⟩ := h) | (obtain ⟨h1, _⟩ := h)) | (apply WL.add; exact rfl; exact rfl; exact rfl; exact rfl; omega) | (apply WL.sub; exact rfl; exact rfl; exact rfl; exact rfl; omega) | (apply WL.mul; exact rfl; exact rfl; exact rfl; exact rfl; omega) | (apply WL.quo; exact rfl; exact rfl; exact rfl; exact rfl; omega) | (apply WL.rem; exact rfl; exact rfl; exact rfl; exact rfl; omega) | (apply WL.loadA tOk; exact rfl; exact rfl; exact rfl; exact rfl; exact rfl; (first | assumption | (focus (apply Cells.ext; rotate_left; assumption; (exact extA); done))); exact rfl) | (apply WL.guardF; exact rfl; exact rfl) | (apply WL.gD; exact rfl; exact rfl; all_goals intro _) | (apply WL.gN; exact rfl; exact rfl; all_goals intro _) | (apply WL.gB; exact rfl; exact rfl; all_goals intro _))
      | (show Z _ _ _ _ _; first | apply Z.tail | apply Z.then_normal | apply Z.block_normal | apply Z.then_exit | apply Z.block_exit | apply Z.then_ret | apply Z.block_ret | (apply Z.block_other; exact rfl))
      | (show W _ _ _ _ _ _; first | apply W.seq | apply W.region | apply W.block | apply W.skip | apply W.ret | apply W.exit | (apply W.condT; exact rfl) | (apply W.condF; exact rfl) | (apply W.condD; exact rfl; all_goals intro _) | (apply W.condN; exact rfl; all_goals intro _) | (apply W.condB; exact rfl; all_goals intro _)))
    all_goals first
      | (exfalso; apply hsm; refine ⟨⟨⟨?_, ?_⟩, ?_⟩, ?_⟩ <;> first | omega | exact (And.right (by assumption)); done)
      | exact Z.body1 Try.results3 rfl fun m => ⟨rfl, Ext.at (by assumption) m⟩
      | skip

set_option maxHeartbeats 4000000 in
theorem law_FrontLeads (a b : Option Addr) (cap cb : Nat) (n : List (Int × Int)) (vals : List Int) (l : Int) (w : World) (R : Row 2 encN w a n) (Rb : Row 1 encI w b vals) (hl : inI64 l) :
    Pure Try.prog 4 [.slice a n.length cap, .slice b vals.length cb, .int .i64 l] w (.bool true) := by
  have hlb := Rb.len
  by_cases hsm : (n.length ≤ 80 ∧ GoodNet n) ∧ vals.length ≤ 200
  · have hg := hsm.1.2
    have hn := hsm.1.1
    have hi := hsm.2
    by_cases hx0 : 0 < trace n vals l
    · obtain ⟨i1, i2, i3, i4, i5, i6, x, hx, hxi⟩ := trace_leads hg _ _ hx0
      have hH : HangL n l (traceT n vals (n.length + 1) l / 2) := ⟨i1, i2, by omega, by omega, i6⟩
      change HangL n l (trace n vals l / 2) at hH
      change 2 ≤ trace n vals l at i3
      change trace n vals l / 2 ≤ l / 2 at i4
      change lit3 vals (trace n vals l) = 2 at i5
      change n[(trace n vals l / 2 - 1).toNat]? = some x at hx
      have hT : ∀ t, t = trace n vals l → ∀ w', Ext w w' → Pure Try.prog 19 [.slice a n.length cap, .slice b vals.length cb, .int .i64 l] w' (.tuple #[.int .i64 t, .bool (dec (0 < t))]) := fun t ht w' hx => by
        rw [ht]; exact front_Trace _ _ _ _ n vals l _ hg (by omega) hl.2 (R.ext hx) (Rb.ext hx)
      obtain ⟨t, ht⟩ : ∃ t, t = trace n vals l := ⟨_, rfl⟩
      replace hT := hT t ht
      rw [← ht] at i3 i4 i5 hx hH hx0
      clear i6 ht
      have i8 : t ≤ 200 := by omega
      refine Spec.of _ Try.func4 rfl Try.ntmps4 (by kernel_rfl) rfl ?_
      repeat' (first
        | ((show WL _ _ _ (⟨_, .call ⟨.value (.func 17), _, _⟩, _, _, _, _⟩ :: _) _ _ _); apply WL.callS; exact rfl; exact rfl; exact rfl; exact rfl; exact law07_Small _ _ _ _ _ R (by omega))
        | (apply WL.gT; exact rfl; exact rfl; (focus (first | exact dec_true ⟨by omega, hg⟩ | exact dec_true hx0 | exact dec_true hxi | exact dec_true i5 | exact dec_true hH | exact dec_false (by omega) | exact dec_true (by omega) | (rw [dec_true hx0]; rfl); done)))
        | (apply WL.gF; exact rfl; exact rfl; (focus (first | exact dec_true ⟨by omega, hg⟩ | exact dec_true hx0 | exact dec_true hxi | exact dec_true i5 | exact dec_true hH | exact dec_false (by omega) | exact dec_true (by omega) | (rw [dec_true hx0]; rfl); done)))
        | (apply W.condKT; exact rfl; (focus (first | exact dec_true ⟨by omega, hg⟩ | exact dec_true hx0 | exact dec_true hxi | exact dec_true i5 | exact dec_true hH | exact dec_false (by omega) | exact dec_true (by omega) | (rw [dec_true hx0]; rfl); done)))
        | (apply W.condKF; exact rfl; (focus (first | exact dec_true ⟨by omega, hg⟩ | exact dec_true hx0 | exact dec_true hxi | exact dec_true i5 | exact dec_true hH | exact dec_false (by omega) | exact dec_true (by omega) | (rw [dec_true hx0]; rfl); done)))
        | (((show WL _ _ _ (⟨_, .call ⟨.value (.func 19), _, _⟩, _, _, _, _⟩ :: _) _ _ _); apply WL.callP; exact rfl; exact rfl; exact rfl; exact rfl; exact hT _ (by (exact extA)); intro w' hx))
        | ((show WL _ _ _ (⟨_, .call ⟨.value (.func 26), _, _⟩, _, _, _, _⟩ :: _) _ _ _); apply WL.callS; exact rfl; exact rfl; exact rfl; exact rfl; exact ref_Lit _ _ vals t _ (Rb.ext (by (exact extA))))
        | ((show WL _ _ _ (⟨_, .call ⟨.value (.func 27), _, _⟩, _, _, _, _⟩ :: _) _ _ _); apply WL.callP; exact rfl; exact rfl; exact rfl; exact rfl; exact ref08_Hangs _ _ n l (t / 2) _ (R.ext (by (exact extA))) hg (by omega) hl; intro w' hx)
        | ((show WL _ _ _ (⟨_, .call ⟨.value (.func 18), _, _⟩, _, _, _, _⟩ :: _) _ _ _); apply WL.callP; exact rfl; exact rfl; exact rfl; exact rfl; exact lives23 _; intro w' hx)
        | (show WL _ _ _ _ _ _ _; first | apply WL.nil | (apply WL.pev tOk; exact rfl; exact rfl; exact rfl) | (apply WL.load tOk; exact rfl; exact rfl; exact rfl; exact rfl; exact rfl; (first | assumption | (focus (apply Ext.cell; rotate_left; assumption; (exact extA); done)))) | (apply WL.index tOk; exact rfl; exact rfl; exact rfl; exact rfl; exact rfl; exact rfl; exact rfl; exact rfl; assumption; (exact extA); exact rfl; omega; assumption; intro b off h; have hcc := h; first | (obtain ⟨h1, h2, h3, h4, h5, h6, _⟩ := h) | (obtain ⟨h1, h2, h3, _⟩ := h) | (obtain ⟨h1, h2, _⟩ := h) | (obtain ⟨h1, _⟩ := h)) | (apply WL.add; exact rfl; exact rfl; exact rfl; exact rfl; omega) | (apply WL.sub; exact rfl; exact rfl; exact rfl; exact rfl; omega) | (apply WL.mul; exact rfl; exact rfl; exact rfl; exact rfl; omega) | (apply WL.quo; exact rfl; exact rfl; exact rfl; exact rfl; omega) | (apply WL.rem; exact rfl; exact rfl; exact rfl; exact rfl; omega) | (apply WL.loadA tOk; exact rfl; exact rfl; exact rfl; exact rfl; exact rfl; (first | assumption | (focus (apply Cells.ext; rotate_left; assumption; (exact extA); done))); exact rfl) | (apply WL.guardF; exact rfl; exact rfl) | (apply WL.gD; exact rfl; exact rfl; all_goals intro _) | (apply WL.gN; exact rfl; exact rfl; all_goals intro _) | (apply WL.gB; exact rfl; exact rfl; all_goals intro _))
        | (show Z _ _ _ _ _; first | apply Z.tail | apply Z.then_normal | apply Z.block_normal | apply Z.then_exit | apply Z.block_exit | apply Z.then_ret | apply Z.block_ret | (apply Z.block_other; exact rfl))
        | (show W _ _ _ _ _ _; first | apply W.seq | apply W.region | apply W.block | apply W.skip | apply W.ret | apply W.exit | (apply W.condT; exact rfl) | (apply W.condF; exact rfl) | (apply W.condD; exact rfl; all_goals intro _) | (apply W.condN; exact rfl; all_goals intro _) | (apply W.condB; exact rfl; all_goals intro _)))
      all_goals exact Z.body1 Try.results4 rfl fun m => ⟨rfl, Ext.at (by (exact extA)) m⟩
    · have hx00 : trace n vals l = 0 := by have : 0 ≤ trace n vals l := trace_nn n vals _ l; omega
      refine Spec.of _ Try.func4 rfl Try.ntmps4 (by kernel_rfl) rfl ?_
      repeat' (first
        | ((show WL _ _ _ (⟨_, .call ⟨.value (.func 17), _, _⟩, _, _, _, _⟩ :: _) _ _ _); apply WL.callS; exact rfl; exact rfl; exact rfl; exact rfl; exact law07_Small _ _ _ _ _ R (by omega))
        | (apply WL.gT; exact rfl; exact rfl; (focus (first | exact dec_true ⟨by omega, hg⟩ | exact dec_false hx0 | exact dec_true hx00 | exact dec_false (by omega) | (rw [dec_false hx0]; rfl); done)))
        | (apply WL.gF; exact rfl; exact rfl; (focus (first | exact dec_true ⟨by omega, hg⟩ | exact dec_false hx0 | exact dec_true hx00 | exact dec_false (by omega) | (rw [dec_false hx0]; rfl); done)))
        | (apply W.condKT; exact rfl; (focus (first | exact dec_true ⟨by omega, hg⟩ | exact dec_false hx0 | exact dec_true hx00 | exact dec_false (by omega) | (rw [dec_false hx0]; rfl); done)))
        | (apply W.condKF; exact rfl; (focus (first | exact dec_true ⟨by omega, hg⟩ | exact dec_false hx0 | exact dec_true hx00 | exact dec_false (by omega) | (rw [dec_false hx0]; rfl); done)))
        | ((show WL _ _ _ (⟨_, .call ⟨.value (.func 19), _, _⟩, _, _, _, _⟩ :: _) _ _ _); apply WL.callP; exact rfl; exact rfl; exact rfl; exact rfl; exact front_Trace _ _ _ _ n vals l _ hg (by omega) hl.2 (R.ext (by (exact extA))) (Rb.ext (by (exact extA))); intro w' hx)
        | ((show WL _ _ _ (⟨_, .call ⟨.value (.func 18), _, _⟩, _, _, _, _⟩ :: _) _ _ _); apply WL.callP; exact rfl; exact rfl; exact rfl; exact rfl; exact lives23 _; intro w' hx)
        | (show WL _ _ _ _ _ _ _; first | apply WL.nil | (apply WL.pev tOk; exact rfl; exact rfl; exact rfl) | (apply WL.load tOk; exact rfl; exact rfl; exact rfl; exact rfl; exact rfl; (first | assumption | (focus (apply Ext.cell; rotate_left; assumption; (exact extA); done)))) | (apply WL.index tOk; exact rfl; exact rfl; exact rfl; exact rfl; exact rfl; exact rfl; exact rfl; exact rfl; assumption; (exact extA); exact rfl; omega; assumption; intro b off h; have hcc := h; first | (obtain ⟨h1, h2, h3, h4, h5, h6, _⟩ := h) | (obtain ⟨h1, h2, h3, _⟩ := h) | (obtain ⟨h1, h2, _⟩ := h) | (obtain ⟨h1, _⟩ := h)) | (apply WL.add; exact rfl; exact rfl; exact rfl; exact rfl; omega) | (apply WL.sub; exact rfl; exact rfl; exact rfl; exact rfl; omega) | (apply WL.mul; exact rfl; exact rfl; exact rfl; exact rfl; omega) | (apply WL.quo; exact rfl; exact rfl; exact rfl; exact rfl; omega) | (apply WL.rem; exact rfl; exact rfl; exact rfl; exact rfl; omega) | (apply WL.loadA tOk; exact rfl; exact rfl; exact rfl; exact rfl; exact rfl; (first | assumption | (focus (apply Cells.ext; rotate_left; assumption; (exact extA); done))); exact rfl) | (apply WL.guardF; exact rfl; exact rfl) | (apply WL.gD; exact rfl; exact rfl; all_goals intro _) | (apply WL.gN; exact rfl; exact rfl; all_goals intro _) | (apply WL.gB; exact rfl; exact rfl; all_goals intro _))
        | (show Z _ _ _ _ _; first | apply Z.tail | apply Z.then_normal | apply Z.block_normal | apply Z.then_exit | apply Z.block_exit | apply Z.then_ret | apply Z.block_ret | (apply Z.block_other; exact rfl))
        | (show W _ _ _ _ _ _; first | apply W.seq | apply W.region | apply W.block | apply W.skip | apply W.ret | apply W.exit | (apply W.condT; exact rfl) | (apply W.condF; exact rfl) | (apply W.condD; exact rfl; all_goals intro _) | (apply W.condN; exact rfl; all_goals intro _) | (apply W.condB; exact rfl; all_goals intro _)))
      all_goals exact Z.body1 Try.results4 rfl fun m => ⟨rfl, Ext.at (by (exact extA)) m⟩
  · refine Spec.of _ Try.func4 rfl Try.ntmps4 (by kernel_rfl) rfl ?_
    repeat' (first
      | ((show WL _ _ _ (⟨_, .call ⟨.value (.func 17), _, _⟩, _, _, _, _⟩ :: _) _ _ _); apply WL.callS; exact rfl; exact rfl; exact rfl; exact rfl; exact law07_Small _ _ _ _ _ R (by omega))
      | ((show WL _ _ _ (⟨_, .call ⟨.value (.func 18), _, _⟩, _, _, _, _⟩ :: _) _ _ _); apply WL.callP; exact rfl; exact rfl; exact rfl; exact rfl; exact lives23 _; intro w' hx)
      | (show WL _ _ _ _ _ _ _; first | apply WL.nil | (apply WL.pev tOk; exact rfl; exact rfl; exact rfl) | (apply WL.load tOk; exact rfl; exact rfl; exact rfl; exact rfl; exact rfl; (first | assumption | (focus (apply Ext.cell; rotate_left; assumption; (exact extA); done)))) | (apply WL.index tOk; exact rfl; exact rfl; exact rfl; exact rfl; exact rfl; exact rfl; exact rfl; exact rfl; assumption; (exact extA); exact rfl; omega; assumption; intro b off h; have hcc := h; first | (obtain ⟨h1, h2, h3, h4, h5, h6, _⟩ := h) | (obtain ⟨h1, h2, h3, _⟩ := h) | (obtain ⟨h1, h2, _⟩ := h) | (obtain ⟨h1, _⟩ := h)) | (apply WL.add; exact rfl; exact rfl; exact rfl; exact rfl; omega) | (apply WL.sub; exact rfl; exact rfl; exact rfl; exact rfl; omega) | (apply WL.mul; exact rfl; exact rfl; exact rfl; exact rfl; omega) | (apply WL.quo; exact rfl; exact rfl; exact rfl; exact rfl; omega) | (apply WL.rem; exact rfl; exact rfl; exact rfl; exact rfl; omega) | (apply WL.loadA tOk; exact rfl; exact rfl; exact rfl; exact rfl; exact rfl; (first | assumption | (focus (apply Cells.ext; rotate_left; assumption; (exact extA); done))); exact rfl) | (apply WL.guardF; exact rfl; exact rfl) | (apply WL.gD; exact rfl; exact rfl; all_goals intro _) | (apply WL.gN; exact rfl; exact rfl; all_goals intro _) | (apply WL.gB; exact rfl; exact rfl; all_goals intro _))
      | (show Z _ _ _ _ _; first | apply Z.tail | apply Z.then_normal | apply Z.block_normal | apply Z.then_exit | apply Z.block_exit | apply Z.then_ret | apply Z.block_ret | (apply Z.block_other; exact rfl))
      | (show W _ _ _ _ _ _; first | apply W.seq | apply W.region | apply W.block | apply W.skip | apply W.ret | apply W.exit | (apply W.condT; exact rfl) | (apply W.condF; exact rfl) | (apply W.condD; exact rfl; all_goals intro _) | (apply W.condN; exact rfl; all_goals intro _) | (apply W.condB; exact rfl; all_goals intro _)))
    all_goals first
      | (exfalso; apply hsm; refine ⟨⟨?_, ?_⟩, ?_⟩ <;> first | omega | exact (And.right (by assumption)); done)
      | exact Z.body1 Try.results4 rfl fun m => ⟨rfl, Ext.at (by assumption) m⟩
      | skip
end Go.Proofs.Ytfkdlepemiepdaa
