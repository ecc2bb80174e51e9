/- All that some clauses say of values: the reference's Units. No conditions. -/
import Derived.Test.YtfkdlepemiepdaaImp1
import Derived.Test.YtfkdlepemiepdaaTern2
namespace Go.Proofs.Ytfkdlepemiepdaa
open Go Go.Lt Go.RowKit
set_option linter.unusedVariables false
set_option linter.unusedSimpArgs false

structure OkV (m : Nat) (out : List Int) : Prop where
  len : out.length = m
  head : out.getD 0 0 = 0
  three : ∀ (i : Nat) (z : Int), out[i]? = some z → z = 0 ∨ z = 1 ∨ z = 2
def cnt2 : List Int → Nat
  | [] => 0
  | z :: r => (if z = 2 then 1 else 0) + cnt2 r
theorem cnt2_set : ∀ (l : List Int) (i : Nat) (y : Int), l[i]? = some 2 → y ≠ 2 → cnt2 (l.set i y) + 1 = cnt2 l
  | [], i, y, h, _ => by simp at h
  | z :: r, 0, y, h, hy => by
    simp only [List.getElem?_cons_zero, Option.some.injEq] at h
    subst h
    rw [List.set_cons_zero, cnt2, cnt2, if_neg hy, if_pos rfl]; omega
  | z :: r, i + 1, y, h, hy => by
    simp only [List.getElem?_cons_succ] at h
    have ih := cnt2_set r i y h hy
    rw [List.set_cons_succ, cnt2, cnt2]; omega
theorem OkV.two {m : Nat} {out : List Int} (h : OkV m out) {l : Int} (h0 : 0 ≤ l) (hl : (l / 2).toNat < m) (hm : l ≤ 33554433) (h2 : lit3 out l = 2) : out[(l / 2).toNat]? = some 2 := by
  obtain ⟨z, hz⟩ := getI out (show (l / 2).toNat < out.length by rw [h.len]; exact hl)
  rw [lit3_tl h.head h0 (by rw [h.len]; exact hl) hm] at h2
  unfold tl at h2
  rw [getD_of hz] at h2
  have h3 := h.three _ _ hz
  rw [hz]
  rcases h3 with rfl | rfl | rfl
  · split at h2 <;> simp [not3, val3] at h2
  · split at h2 <;> simp [not3, val3] at h2
  · rfl
theorem OkV.set {m : Nat} {out : List Int} (h : OkV m out) {l : Int} (h1 : 1 < l) : OkV m (setV out l) := by
  refine ⟨by rw [setV_len]; exact h.len, ?_, fun i z hz => ?_⟩
  · have : ∀ y : Int, (out.set (l / 2).toNat y).getD 0 0 = out.getD 0 0 := fun y => by
      simp only [List.getD]
      rw [List.getElem?_set_ne (by omega)]
    unfold setV; rw [this]; exact h.head
  · unfold setV at hz
    rw [List.getElem?_set] at hz
    split at hz
    · split at hz
      · cases hz; split <;> omega
      · cases hz
    · exact h.three i z hz
def goodC (out : List Int) (c : List Int) : Prop := vC out 0 c ≠ 0 ∧ ¬ 1 < uC out (-1) c

set_option maxHeartbeats 8000000 in
theorem ref22_Units (ra rc : Option Addr) (ca cc : Nat) (vals : List Int) (cs : List (RowV Int)) (w : World) (R : Row 1 encI w ra vals) (Rc : Row 1 encRow w rc cs) (hin : ∀ c ∈ cs, Row 1 encI w c.1 c.2.2 ∧ ∀ x ∈ c.2.2, 0 ≤ x ∧ (x / 2).toNat < vals.length ∧ x ≤ 33554433) (hna : ra = none → ca = 0) (hvl : vals.length ≤ 1048576) (hok : OkV vals.length vals) :
    Lt.Spec Try.prog 90 [.slice ra vals.length ca, .slice rc cs.length cc] w (fun v w' => Ext w w' ∧ (v = .tuple #[.slice none 0 0, .bool false] ∨ ∃ a c out, v = .tuple #[.slice a out.length c, .bool true] ∧ Own 1 encI 3 w.heap.size w' a c out ∧ OkV vals.length out ∧ ∀ q ∈ cs, goodC out q.2.2)) := by
  have hcl := Rc.len
  refine Spec.of _ Try.func90 rfl Try.ntmps90 (by kernel_rfl) rfl ?_
  repeat' (first
    | (apply WL.lit (len := 0) tOk; exact rfl; exact rfl; exact rfl; exact rfl; exact rfl; exact rfl; (first | exact rfl | kernel_rfl | (simp [Instr.fill, catCells]; done)); exact rfl; intro gb w' hb hge hc hx; have hO0 := Own.of_block0 (enc := encI) (s := 1) hb hge)
    | (apply WL.appendS tOk encI_ok; exact rfl; exact rfl; exact rfl; exact rfl; exact rfl; exact rfl; exact rfl; exact rfl; exact rfl; exact rfl; assumption; (exact extA); (first | exact rfl | (simp; done) | (simp [*]; done) | omega | (simp only [List.length_set]; omega)); assumption; (exact extA); (first | exact rfl | (simp; done) | (simp [*]; done) | omega | (simp only [List.length_set]; omega)); (first | assumption | (intro h; cases h) | exact Own.noneCap (by assumption)); exact rfl; (exact extA); (first | omega | (simp; omega) | (simp at *; omega)); intro a' cap' w' hO hX' hU hF)
    | (show WL _ _ _ _ _ _ _; first | apply WL.nil | (apply WL.pev tOk; exact rfl; exact rfl; exact rfl) | (apply WL.load tOk; exact rfl; exact rfl; exact rfl; exact rfl; exact rfl; (first | assumption | (focus (apply Ext.cell; rotate_left; assumption; (exact extA); done)))) | (apply WL.index tOk; exact rfl; exact rfl; exact rfl; exact rfl; exact rfl; exact rfl; exact rfl; exact rfl; assumption; (exact extA); exact rfl; omega; assumption; intro b off h; have hcc := h; first | (obtain ⟨h1, h2, h3, h4, h5, h6, _⟩ := h) | (obtain ⟨h1, h2, h3, _⟩ := h) | (obtain ⟨h1, h2, _⟩ := h) | (obtain ⟨h1, _⟩ := h)) | (apply WL.add; exact rfl; exact rfl; exact rfl; exact rfl; omega) | (apply WL.sub; exact rfl; exact rfl; exact rfl; exact rfl; omega) | (apply WL.mul; exact rfl; exact rfl; exact rfl; exact rfl; omega) | (apply WL.quo; exact rfl; exact rfl; exact rfl; exact rfl; omega) | (apply WL.rem; exact rfl; exact rfl; exact rfl; exact rfl; omega) | (apply WL.loadA tOk; exact rfl; exact rfl; exact rfl; exact rfl; exact rfl; (first | assumption | (focus (apply Cells.ext; rotate_left; assumption; (exact extA); done))); exact rfl) | (apply WL.guardF; exact rfl; exact rfl) | (apply WL.gD; exact rfl; exact rfl; all_goals intro _) | (apply WL.gN; exact rfl; exact rfl; all_goals intro _) | (apply WL.gB; exact rfl; exact rfl; all_goals intro _))
    | (show Z _ _ _ _ _; first | apply Z.tail | apply Z.then_normal | apply Z.block_normal | apply Z.then_exit | apply Z.block_exit | apply Z.then_ret | apply Z.block_ret | (apply Z.block_other; exact rfl))
    | (show W _ _ _ _ _ _; first | apply W.seq | apply W.region | apply W.block | apply W.skip | apply W.ret | apply W.exit | (apply W.condT; exact rfl) | (apply W.condF; exact rfl) | (apply W.condD; exact rfl; all_goals intro _) | (apply W.condN; exact rfl; all_goals intro _) | (apply W.condB; exact rfl; all_goals intro _)))
  rw [List.nil_append] at hO
  refine W.loop (fun s : List Int × Option Addr × Nat × World => OkV vals.length s.1 ∧ Ext w s.2.2.2 ∧ Own 1 encI 3 w.heap.size s.2.2.2 s.2.1 s.2.2.1 s.1) (fun s => [(1, .slice rc cs.length cc), (6, .slice s.2.1 s.1.length s.2.2.1)]) (fun s => s.2.2.2) (fun s => cnt2 s.1) (vals, a', cap', w') ⟨hok, hX', hO⟩ ⟨rfl, rfl, trivial⟩ rfl ?_
  rintro ⟨out0, ao, co, w0⟩ ⟨hk0, hX0, hO0⟩
  dsimp only at hk0 hX0 hO0
  repeat' (first
    | (show WL _ _ _ _ _ _ _; first | apply WL.nil | (apply WL.pev tOk; exact rfl; exact rfl; exact rfl) | (apply WL.load tOk; exact rfl; exact rfl; exact rfl; exact rfl; exact rfl; (first | assumption | (focus (apply Ext.cell; rotate_left; assumption; (exact extA); done)))) | (apply WL.index tOk; exact rfl; exact rfl; exact rfl; exact rfl; exact rfl; exact rfl; exact rfl; exact rfl; assumption; (exact extA); exact rfl; omega; assumption; intro b off h; have hcc := h; first | (obtain ⟨h1, h2, h3, h4, h5, h6, _⟩ := h) | (obtain ⟨h1, h2, h3, _⟩ := h) | (obtain ⟨h1, h2, _⟩ := h) | (obtain ⟨h1, _⟩ := h)) | (apply WL.add; exact rfl; exact rfl; exact rfl; exact rfl; omega) | (apply WL.sub; exact rfl; exact rfl; exact rfl; exact rfl; omega) | (apply WL.mul; exact rfl; exact rfl; exact rfl; exact rfl; omega) | (apply WL.quo; exact rfl; exact rfl; exact rfl; exact rfl; omega) | (apply WL.rem; exact rfl; exact rfl; exact rfl; exact rfl; omega) | (apply WL.loadA tOk; exact rfl; exact rfl; exact rfl; exact rfl; exact rfl; (first | assumption | (focus (apply Cells.ext; rotate_left; assumption; (exact extA); done))); exact rfl) | (apply WL.guardF; exact rfl; exact rfl) | (apply WL.gD; exact rfl; exact rfl; all_goals intro _) | (apply WL.gN; exact rfl; exact rfl; all_goals intro _) | (apply WL.gB; exact rfl; exact rfl; all_goals intro _))
    | (show Z _ _ _ _ _; first | apply Z.tail | apply Z.then_normal | apply Z.block_normal | apply Z.then_exit | apply Z.block_exit | apply Z.then_ret | apply Z.block_ret | (apply Z.block_other; exact rfl))
    | (show W _ _ _ _ _ _; first | apply W.seq | apply W.region | apply W.block | apply W.skip | apply W.ret | apply W.exit | (apply W.condT; exact rfl) | (apply W.condF; exact rfl) | (apply W.condD; exact rfl; all_goals intro _) | (apply W.condN; exact rfl; all_goals intro _) | (apply W.condB; exact rfl; all_goals intro _)))
  refine W.loop (fun s : Nat × Bool × List Int × World => s.1 ≤ cs.length ∧ OkV vals.length s.2.2.1 ∧ Ext w s.2.2.2 ∧ Own 1 encI 3 w.heap.size s.2.2.2 ao co s.2.2.1 ∧ (s.2.1 = true → cnt2 s.2.2.1 < cnt2 out0) ∧ (s.2.1 = false → s.2.2.1 = out0 ∧ ∀ q ∈ cs.take s.1, goodC out0 q.2.2)) (fun s => [(1, .slice rc cs.length cc), (6, .slice ao s.2.2.1.length co), (7, .bool s.2.1), (8, .int .i64 s.1)]) (fun s => s.2.2.2) (fun s => cs.length - s.1) (0, false, out0, w0) ⟨Nat.zero_le _, hk0, hX0, hO0, (fun h => by cases h), fun _ => ⟨rfl, fun q h => by simp at h⟩⟩ ⟨rfl, rfl, rfl, rfl, trivial⟩ rfl ?_
  rintro ⟨k, more, out, w9⟩ ⟨hk, hkv, hX9, hO9, hm1, hm2⟩
  dsimp only at hk hkv hX9 hO9 hm1 hm2
  have hol := hkv.len
  by_cases hlt : k < cs.length
  · obtain ⟨c, hc⟩ := getI cs hlt
    obtain ⟨Rq, hq⟩ := hin c (List.mem_of_getElem? hc)
    have Rq9 := Rq.ext hX9
    have Rc9 := Rc.ext hX9
    have Ro := Own.row encI_ok hO9
    by_cases z1 : vC out 0 c.2.2 = 0
    · repeat' (first
        | ((show WL _ _ _ (⟨_, .call ⟨.value (.func 145), _, _⟩, _, _, _, _⟩ :: _) _ _ _); apply WL.callS; exact rfl; exact rfl; exact rfl; exact rfl; exact ref20_Value _ _ _ _ out c.2.2 _ Ro Rq9)
        | (apply WL.gT; exact rfl; exact rfl; (focus (first | exact dec_true (by show ((k : Nat) : Int) < _; omega) | exact dec_true z1; done)))
        | (apply WL.gF; exact rfl; exact rfl; (focus (first | exact dec_true (by show ((k : Nat) : Int) < _; omega) | exact dec_true z1; done)))
        | (apply W.condKT; exact rfl; (focus (first | exact dec_true (by show ((k : Nat) : Int) < _; omega) | exact dec_true z1; done)))
        | (apply W.condKF; exact rfl; (focus (first | exact dec_true (by show ((k : Nat) : Int) < _; omega) | exact dec_true z1; done)))
        | (show WL _ _ _ _ _ _ _; first | apply WL.nil | (apply WL.pev tOk; exact rfl; exact rfl; exact rfl) | (apply WL.load tOk; exact rfl; exact rfl; exact rfl; exact rfl; exact rfl; (first | assumption | (focus (apply Ext.cell; rotate_left; assumption; (exact extA); done)))) | (apply WL.index tOk; exact rfl; exact rfl; exact rfl; exact rfl; exact rfl; exact rfl; exact rfl; exact rfl; assumption; (exact extA); exact rfl; omega; assumption; intro b off h; have hcc := h; first | (obtain ⟨h1, h2, h3, h4, h5, h6, _⟩ := h) | (obtain ⟨h1, h2, h3, _⟩ := h) | (obtain ⟨h1, h2, _⟩ := h) | (obtain ⟨h1, _⟩ := h)) | (apply WL.add; exact rfl; exact rfl; exact rfl; exact rfl; omega) | (apply WL.sub; exact rfl; exact rfl; exact rfl; exact rfl; omega) | (apply WL.mul; exact rfl; exact rfl; exact rfl; exact rfl; omega) | (apply WL.quo; exact rfl; exact rfl; exact rfl; exact rfl; omega) | (apply WL.rem; exact rfl; exact rfl; exact rfl; exact rfl; omega) | (apply WL.loadA tOk; exact rfl; exact rfl; exact rfl; exact rfl; exact rfl; (first | assumption | (focus (apply Cells.ext; rotate_left; assumption; (exact extA); done))); exact rfl) | (apply WL.guardF; exact rfl; exact rfl) | (apply WL.gD; exact rfl; exact rfl; all_goals intro _) | (apply WL.gN; exact rfl; exact rfl; all_goals intro _) | (apply WL.gB; exact rfl; exact rfl; all_goals intro _))
        | (show Z _ _ _ _ _; first | apply Z.tail | apply Z.then_normal | apply Z.block_normal | apply Z.then_exit | apply Z.block_exit | apply Z.then_ret | apply Z.block_ret | (apply Z.block_other; exact rfl))
        | (show W _ _ _ _ _ _; first | apply W.seq | apply W.region | apply W.block | apply W.skip | apply W.ret | apply W.exit | (apply W.condT; exact rfl) | (apply W.condF; exact rfl) | (apply W.condD; exact rfl; all_goals intro _) | (apply W.condN; exact rfl; all_goals intro _) | (apply W.condB; exact rfl; all_goals intro _)))
      exact Z.body2 Try.results90 rfl rfl fun m => ⟨hX9.at m, .inl rfl⟩
    · by_cases z2 : 1 < uC out (-1) c.2.2
      · have hu := (uC_mem (vals := out) c.2.2 (-1)).resolve_left (fun h => by omega) |>.resolve_left (fun h => by rw [h] at z2; omega)
        have hu2 := hq _ hu.1
        have h2 := hkv.two (by omega) hu2.2.1 hu2.2.2 hu.2
        have hcs := cnt2_set out _ (if uC out (-1) c.2.2 % 2 = 1 then 0 else 1) h2 (by split <;> decide)
        have hle : cnt2 out ≤ cnt2 out0 := by
          cases more
          · rw [(hm2 rfl).1]; exact Nat.le_refl _
          · exact Nat.le_of_lt (hm1 rfl)
        repeat' (first
          | ((show WL _ _ _ (⟨_, .call ⟨.value (.func 145), _, _⟩, _, _, _, _⟩ :: _) _ _ _); apply WL.callS; exact rfl; exact rfl; exact rfl; exact rfl; exact ref20_Value _ _ _ _ out c.2.2 _ Ro Rq9)
          | ((show WL _ _ _ (⟨_, .call ⟨.value (.func 146), _, _⟩, _, _, _, _⟩ :: _) _ _ _); apply WL.callS; exact rfl; exact rfl; exact rfl; exact rfl; exact ref20_Unit _ _ _ _ out c.2.2 _ Ro Rq9)
          | (apply WL.gT; exact rfl; exact rfl; (focus (first | exact dec_true (by show ((k : Nat) : Int) < _; omega) | exact dec_false z1 | exact dec_true z2; done)))
          | (apply WL.gF; exact rfl; exact rfl; (focus (first | exact dec_true (by show ((k : Nat) : Int) < _; omega) | exact dec_false z1 | exact dec_true z2; done)))
          | (apply W.condKT; exact rfl; (focus (first | exact dec_true (by show ((k : Nat) : Int) < _; omega) | exact dec_false z1 | exact dec_true z2; done)))
          | (apply W.condKF; exact rfl; (focus (first | exact dec_true (by show ((k : Nat) : Int) < _; omega) | exact dec_false z1 | exact dec_true z2; done)))
          | (((show WL _ _ _ (⟨_, .call ⟨.value (.func 147), _, _⟩, _, _, _, _⟩ :: _) _ _ _); apply WL.call; exact rfl; exact rfl; exact rfl; exact rfl; exact ref22_set _ _ out (uC out (-1) c.2.2) _ w hX9 hO9 ⟨by omega, by omega, by omega⟩; rintro v' w8 ⟨rfl, hX8, hO8⟩))
          | (show WL _ _ _ _ _ _ _; first | apply WL.nil | (apply WL.pev tOk; exact rfl; exact rfl; exact rfl) | (apply WL.load tOk; exact rfl; exact rfl; exact rfl; exact rfl; exact rfl; (first | assumption | (focus (apply Ext.cell; rotate_left; assumption; (exact extA); done)))) | (apply WL.index tOk; exact rfl; exact rfl; exact rfl; exact rfl; exact rfl; exact rfl; exact rfl; exact rfl; assumption; (exact extA); exact rfl; omega; assumption; intro b off h; have hcc := h; first | (obtain ⟨h1, h2, h3, h4, h5, h6, _⟩ := h) | (obtain ⟨h1, h2, h3, _⟩ := h) | (obtain ⟨h1, h2, _⟩ := h) | (obtain ⟨h1, _⟩ := h)) | (apply WL.add; exact rfl; exact rfl; exact rfl; exact rfl; omega) | (apply WL.sub; exact rfl; exact rfl; exact rfl; exact rfl; omega) | (apply WL.mul; exact rfl; exact rfl; exact rfl; exact rfl; omega) | (apply WL.quo; exact rfl; exact rfl; exact rfl; exact rfl; omega) | (apply WL.rem; exact rfl; exact rfl; exact rfl; exact rfl; omega) | (apply WL.loadA tOk; exact rfl; exact rfl; exact rfl; exact rfl; exact rfl; (first | assumption | (focus (apply Cells.ext; rotate_left; assumption; (exact extA); done))); exact rfl) | (apply WL.guardF; exact rfl; exact rfl) | (apply WL.gD; exact rfl; exact rfl; all_goals intro _) | (apply WL.gN; exact rfl; exact rfl; all_goals intro _) | (apply WL.gB; exact rfl; exact rfl; all_goals intro _))
          | (show Z _ _ _ _ _; first | apply Z.tail | apply Z.then_normal | apply Z.block_normal | apply Z.then_exit | apply Z.block_exit | apply Z.then_ret | apply Z.block_ret | (apply Z.block_other; exact rfl))
          | (show W _ _ _ _ _ _; first | apply W.seq | apply W.region | apply W.block | apply W.skip | apply W.ret | apply W.exit | (apply W.condT; exact rfl) | (apply W.condF; exact rfl) | (apply W.condD; exact rfl; all_goals intro _) | (apply W.condN; exact rfl; all_goals intro _) | (apply W.condB; exact rfl; all_goals intro _)))
        exact Z.again (k + 1, true, setV out (uC out (-1) c.2.2), w8) ⟨by show k + 1 ≤ _; omega, hkv.set z2, hX8, hO8, fun _ => by show cnt2 (setV _ _) < _; unfold setV; omega, (fun h => by cases h)⟩ (by show cs.length - (k + 1) < cs.length - k; omega) ⟨rfl, by rw [setV_len]; exact rfl, rfl, rfl, trivial⟩ rfl
      · repeat' (first
          | ((show WL _ _ _ (⟨_, .call ⟨.value (.func 145), _, _⟩, _, _, _, _⟩ :: _) _ _ _); apply WL.callS; exact rfl; exact rfl; exact rfl; exact rfl; exact ref20_Value _ _ _ _ out c.2.2 _ Ro Rq9)
          | ((show WL _ _ _ (⟨_, .call ⟨.value (.func 146), _, _⟩, _, _, _, _⟩ :: _) _ _ _); apply WL.callS; exact rfl; exact rfl; exact rfl; exact rfl; exact ref20_Unit _ _ _ _ out c.2.2 _ Ro Rq9)
          | (apply WL.gT; exact rfl; exact rfl; (focus (first | exact dec_true (by show ((k : Nat) : Int) < _; omega) | exact dec_false z1 | exact dec_false z2; done)))
          | (apply WL.gF; exact rfl; exact rfl; (focus (first | exact dec_true (by show ((k : Nat) : Int) < _; omega) | exact dec_false z1 | exact dec_false z2; done)))
          | (apply W.condKT; exact rfl; (focus (first | exact dec_true (by show ((k : Nat) : Int) < _; omega) | exact dec_false z1 | exact dec_false z2; done)))
          | (apply W.condKF; exact rfl; (focus (first | exact dec_true (by show ((k : Nat) : Int) < _; omega) | exact dec_false z1 | exact dec_false z2; done)))
          | (show WL _ _ _ _ _ _ _; first | apply WL.nil | (apply WL.pev tOk; exact rfl; exact rfl; exact rfl) | (apply WL.load tOk; exact rfl; exact rfl; exact rfl; exact rfl; exact rfl; (first | assumption | (focus (apply Ext.cell; rotate_left; assumption; (exact extA); done)))) | (apply WL.index tOk; exact rfl; exact rfl; exact rfl; exact rfl; exact rfl; exact rfl; exact rfl; exact rfl; assumption; (exact extA); exact rfl; omega; assumption; intro b off h; have hcc := h; first | (obtain ⟨h1, h2, h3, h4, h5, h6, _⟩ := h) | (obtain ⟨h1, h2, h3, _⟩ := h) | (obtain ⟨h1, h2, _⟩ := h) | (obtain ⟨h1, _⟩ := h)) | (apply WL.add; exact rfl; exact rfl; exact rfl; exact rfl; omega) | (apply WL.sub; exact rfl; exact rfl; exact rfl; exact rfl; omega) | (apply WL.mul; exact rfl; exact rfl; exact rfl; exact rfl; omega) | (apply WL.quo; exact rfl; exact rfl; exact rfl; exact rfl; omega) | (apply WL.rem; exact rfl; exact rfl; exact rfl; exact rfl; omega) | (apply WL.loadA tOk; exact rfl; exact rfl; exact rfl; exact rfl; exact rfl; (first | assumption | (focus (apply Cells.ext; rotate_left; assumption; (exact extA); done))); exact rfl) | (apply WL.guardF; exact rfl; exact rfl) | (apply WL.gD; exact rfl; exact rfl; all_goals intro _) | (apply WL.gN; exact rfl; exact rfl; all_goals intro _) | (apply WL.gB; exact rfl; exact rfl; all_goals intro _))
          | (show Z _ _ _ _ _; first | apply Z.tail | apply Z.then_normal | apply Z.block_normal | apply Z.then_exit | apply Z.block_exit | apply Z.then_ret | apply Z.block_ret | (apply Z.block_other; exact rfl))
          | (show W _ _ _ _ _ _; first | apply W.seq | apply W.region | apply W.block | apply W.skip | apply W.ret | apply W.exit | (apply W.condT; exact rfl) | (apply W.condF; exact rfl) | (apply W.condD; exact rfl; all_goals intro _) | (apply W.condN; exact rfl; all_goals intro _) | (apply W.condB; exact rfl; all_goals intro _)))
        exact Z.again (k + 1, more, out, w9) ⟨by show k + 1 ≤ _; omega, hkv, hX9, hO9, hm1, fun h => ⟨(hm2 h).1, fun q hqm => by
          obtain ⟨e1, e2⟩ := hm2 h
          rw [take_succ' hc] at hqm
          rcases List.mem_append.1 hqm with h3 | h3
          · exact e2 q h3
          · obtain rfl := List.mem_singleton.1 h3; rw [← e1]; exact ⟨z1, z2⟩⟩⟩ (by show cs.length - (k + 1) < cs.length - k; omega) ⟨rfl, rfl, rfl, rfl, trivial⟩ rfl
  · obtain rfl : k = cs.length := by omega
    cases more
    · obtain ⟨e1, e2⟩ := hm2 rfl
      rw [List.take_length] at e2
      repeat' (first
        | (apply WL.gT; exact rfl; exact rfl; (focus (exact dec_false (by show ¬ ((cs.length : Nat) : Int) < _; omega); done)))
        | (apply WL.gF; exact rfl; exact rfl; (focus (exact dec_false (by show ¬ ((cs.length : Nat) : Int) < _; omega); done)))
        | (apply W.condKT; exact rfl; (focus (exact dec_false (by show ¬ ((cs.length : Nat) : Int) < _; omega); done)))
        | (apply W.condKF; exact rfl; (focus (exact dec_false (by show ¬ ((cs.length : Nat) : Int) < _; omega); done)))
        | (show WL _ _ _ _ _ _ _; first | apply WL.nil | (apply WL.pev tOk; exact rfl; exact rfl; exact rfl) | (apply WL.load tOk; exact rfl; exact rfl; exact rfl; exact rfl; exact rfl; (first | assumption | (focus (apply Ext.cell; rotate_left; assumption; (exact extA); done)))) | (apply WL.index tOk; exact rfl; exact rfl; exact rfl; exact rfl; exact rfl; exact rfl; exact rfl; exact rfl; assumption; (exact extA); exact rfl; omega; assumption; intro b off h; have hcc := h; first | (obtain ⟨h1, h2, h3, h4, h5, h6, _⟩ := h) | (obtain ⟨h1, h2, h3, _⟩ := h) | (obtain ⟨h1, h2, _⟩ := h) | (obtain ⟨h1, _⟩ := h)) | (apply WL.add; exact rfl; exact rfl; exact rfl; exact rfl; omega) | (apply WL.sub; exact rfl; exact rfl; exact rfl; exact rfl; omega) | (apply WL.mul; exact rfl; exact rfl; exact rfl; exact rfl; omega) | (apply WL.quo; exact rfl; exact rfl; exact rfl; exact rfl; omega) | (apply WL.rem; exact rfl; exact rfl; exact rfl; exact rfl; omega) | (apply WL.loadA tOk; exact rfl; exact rfl; exact rfl; exact rfl; exact rfl; (first | assumption | (focus (apply Cells.ext; rotate_left; assumption; (exact extA); done))); exact rfl) | (apply WL.guardF; exact rfl; exact rfl) | (apply WL.gD; exact rfl; exact rfl; all_goals intro _) | (apply WL.gN; exact rfl; exact rfl; all_goals intro _) | (apply WL.gB; exact rfl; exact rfl; all_goals intro _))
        | (show Z _ _ _ _ _; first | apply Z.tail | apply Z.then_normal | apply Z.block_normal | apply Z.then_exit | apply Z.block_exit | apply Z.then_ret | apply Z.block_ret | (apply Z.block_other; exact rfl))
        | (show W _ _ _ _ _ _; first | apply W.seq | apply W.region | apply W.block | apply W.skip | apply W.ret | apply W.exit | (apply W.condT; exact rfl) | (apply W.condF; exact rfl) | (apply W.condD; exact rfl; all_goals intro _) | (apply W.condN; exact rfl; all_goals intro _) | (apply W.condB; exact rfl; all_goals intro _)))
      exact Z.body2 Try.results90 rfl rfl fun m => ⟨hX9.at m, .inr ⟨ao, co, out, rfl, hO9.ext ((Ext.refl _).at m), hkv, by rw [e1]; exact e2⟩⟩
    · repeat' (first
        | (apply WL.gT; exact rfl; exact rfl; (focus (exact dec_false (by show ¬ ((cs.length : Nat) : Int) < _; omega); done)))
        | (apply WL.gF; exact rfl; exact rfl; (focus (exact dec_false (by show ¬ ((cs.length : Nat) : Int) < _; omega); done)))
        | (apply W.condKT; exact rfl; (focus (exact dec_false (by show ¬ ((cs.length : Nat) : Int) < _; omega); done)))
        | (apply W.condKF; exact rfl; (focus (exact dec_false (by show ¬ ((cs.length : Nat) : Int) < _; omega); done)))
        | (show WL _ _ _ _ _ _ _; first | apply WL.nil | (apply WL.pev tOk; exact rfl; exact rfl; exact rfl) | (apply WL.load tOk; exact rfl; exact rfl; exact rfl; exact rfl; exact rfl; (first | assumption | (focus (apply Ext.cell; rotate_left; assumption; (exact extA); done)))) | (apply WL.index tOk; exact rfl; exact rfl; exact rfl; exact rfl; exact rfl; exact rfl; exact rfl; exact rfl; assumption; (exact extA); exact rfl; omega; assumption; intro b off h; have hcc := h; first | (obtain ⟨h1, h2, h3, h4, h5, h6, _⟩ := h) | (obtain ⟨h1, h2, h3, _⟩ := h) | (obtain ⟨h1, h2, _⟩ := h) | (obtain ⟨h1, _⟩ := h)) | (apply WL.add; exact rfl; exact rfl; exact rfl; exact rfl; omega) | (apply WL.sub; exact rfl; exact rfl; exact rfl; exact rfl; omega) | (apply WL.mul; exact rfl; exact rfl; exact rfl; exact rfl; omega) | (apply WL.quo; exact rfl; exact rfl; exact rfl; exact rfl; omega) | (apply WL.rem; exact rfl; exact rfl; exact rfl; exact rfl; omega) | (apply WL.loadA tOk; exact rfl; exact rfl; exact rfl; exact rfl; exact rfl; (first | assumption | (focus (apply Cells.ext; rotate_left; assumption; (exact extA); done))); exact rfl) | (apply WL.guardF; exact rfl; exact rfl) | (apply WL.gD; exact rfl; exact rfl; all_goals intro _) | (apply WL.gN; exact rfl; exact rfl; all_goals intro _) | (apply WL.gB; exact rfl; exact rfl; all_goals intro _))
        | (show Z _ _ _ _ _; first | apply Z.tail | apply Z.then_normal | apply Z.block_normal | apply Z.then_exit | apply Z.block_exit | apply Z.then_ret | apply Z.block_ret | (apply Z.block_other; exact rfl))
        | (show W _ _ _ _ _ _; first | apply W.seq | apply W.region | apply W.block | apply W.skip | apply W.ret | apply W.exit | (apply W.condT; exact rfl) | (apply W.condF; exact rfl) | (apply W.condD; exact rfl; all_goals intro _) | (apply W.condN; exact rfl; all_goals intro _) | (apply W.condB; exact rfl; all_goals intro _)))
      exact Z.again (out, ao, co, w9) ⟨hkv, hX9, hO9⟩ (hm1 rfl) ⟨rfl, rfl, trivial⟩ rfl
end Go.Proofs.Ytfkdlepemiepdaa
