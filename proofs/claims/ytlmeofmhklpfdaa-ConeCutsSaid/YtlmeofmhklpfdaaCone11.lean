/- The law ConeCuts: what the cut net's literals are, and the law's walk. No conditions. -/
import Derived.Test.YtlmeofmhklpfdaaCone10
import Derived.Test.YtlmeofmhklpfdaaLtEq
namespace Go.Proofs.Ytlmeofmhklpfdaa
open Go Go.Lt Go.RowKit
set_option linter.unusedVariables false
set_option linter.unusedSimpArgs false

theorem rnk_mono {P : Nat → Prop} {j k : Nat} (h : j ≤ k) : rnk P j ≤ rnk P k := by
  obtain ⟨r, h1, _⟩ := sel_split (P := P) (show j + 1 ≤ k + 1 by omega)
  rw [rnk, rnk, h1, List.length_append]; omega
open Classical in
noncomputable def fewTo (n : List (Int × Int)) (P : Nat → Prop) (ins : List Bool) : Nat → List Bool
  | 0 => []
  | k + 1 => match n[k]? with
    | some x => if x.1 < 0 ∧ P (k + 1) then fewTo n P ins k ++ [ins.getD (cnt n k) false] else fewTo n P ins k
    | none => fewTo n P ins k
theorem fewTo_yes {n : List (Int × Int)} {P : Nat → Prop} {ins : List Bool} {k : Nat} {x : Int × Int} (hx : n[k]? = some x) (h : x.1 < 0 ∧ P (k + 1)) : fewTo n P ins (k + 1) = fewTo n P ins k ++ [ins.getD (cnt n k) false] := by rw [fewTo, hx]; exact if_pos h
theorem fewTo_no {n : List (Int × Int)} {P : Nat → Prop} {ins : List Bool} {k : Nat} {x : Int × Int} (hx : n[k]? = some x) (h : ¬ (x.1 < 0 ∧ P (k + 1))) : fewTo n P ins (k + 1) = fewTo n P ins k := by rw [fewTo, hx]; exact if_neg h
theorem fewTo_le (n : List (Int × Int)) (P : Nat → Prop) (ins : List Bool) : ∀ k, (fewTo n P ins k).length ≤ k
  | 0 => Nat.le_refl _
  | k + 1 => by
    have ih := fewTo_le n P ins k
    cases hx : n[k]? with
    | none => rw [fewTo, hx]; show (fewTo n P ins k).length ≤ _; omega
    | some x =>
      by_cases h : x.1 < 0 ∧ P (k + 1)
      · rw [fewTo_yes hx h, List.length_append]; simp; omega
      · rw [fewTo_no hx h]; omega

section cut
variable {n : List (Int × Int)} {P : Nat → Prop}
theorem outTo_get (h0 : ¬ P 0) {k : Nat} (h : P (k + 1)) : ∀ {M}, k < M → (outTo n P M)[rnk P k]? = some (nodeC n P k)
  | M + 1, hM => by
    by_cases hkM : k = M
    · subst hkM
      rw [outTo_yes h, List.getElem?_append_right (by rw [outTo_len n h0]; exact Nat.le_refl _), outTo_len n h0, Nat.sub_self]; rfl
    · have ih := outTo_get h0 h (show k < M by omega)
      by_cases hP : P (M + 1)
      · rw [outTo_yes hP, List.getElem?_append_left (lt_of_get ih)]; exact ih
      · rw [outTo_no hP]; exact ih
theorem outTo_all (h0 : ¬ P 0) {i : Nat} {x : Int × Int} : ∀ {M}, (outTo n P M)[i]? = some x → ∃ k, k < M ∧ P (k + 1) ∧ i = rnk P k ∧ x = nodeC n P k
  | 0, h => by simp [outTo] at h
  | M + 1, h => by
    by_cases hP : P (M + 1)
    · rw [outTo_yes hP] at h
      by_cases hi : i < (outTo n P M).length
      · rw [List.getElem?_append_left hi] at h
        obtain ⟨k, h1, h2⟩ := outTo_all h0 h
        exact ⟨k, by omega, h2⟩
      · rw [List.getElem?_append_right (by omega)] at h
        have hl := lt_of_get h
        simp only [List.length_cons, List.length_nil] at hl
        have hi2 : i = (outTo n P M).length := by omega
        rw [hi2, Nat.sub_self] at h
        exact ⟨M, by omega, hP, by rw [hi2, outTo_len n h0], (Option.some.inj h).symm⟩
    · rw [outTo_no hP] at h
      obtain ⟨k, h1, h2⟩ := outTo_all h0 h
      exact ⟨k, by omega, h2⟩
theorem atL_bound {l : Int} {k : Nat} (hl : 0 ≤ l) (hlk : l ≤ 2 * k + 1) (hc : (l / 2).toNat = 0 ∨ P (l / 2).toNat) : 0 ≤ atL P l ∧ atL P l ≤ 2 * (rnk P k : Nat) + 1 ∧ atL P l % 2 = l % 2 ∧ (atL P l / 2).toNat = if (l / 2).toNat = 0 then 0 else rnk P (l / 2).toNat := by
  unfold atL atv
  by_cases h : (l / 2).toNat = 0
  · rw [if_pos h, if_pos h]; omega
  · have := rnk_mono (P := P) (show (l / 2).toNat ≤ k by omega)
    rw [if_neg h, if_pos (hc.resolve_left h), if_neg h]; omega
theorem node_gate (hk : ∀ v c, P v → Kid n v c → c = 0 ∨ P c) {k : Nat} {x : Int × Int} (hx : n[k]? = some x) (h : P (k + 1)) (h1 : 0 ≤ x.1) : nodeC n P k = (atL P x.1, atL P x.2) ∧ ((x.1 / 2).toNat = 0 ∨ P (x.1 / 2).toNat) ∧ ((x.2 / 2).toNat = 0 ∨ P (x.2 / 2).toNat) :=
  ⟨by rw [nodeC, hx]; exact if_neg (by omega), hk _ _ h ⟨k, x, rfl, hx, h1, .inl rfl⟩, hk _ _ h ⟨k, x, rfl, hx, h1, .inr rfl⟩⟩
theorem good_out (hg : GoodNet n) (h0 : ¬ P 0) (hk : ∀ v c, P v → Kid n v c → c = 0 ∨ P c) {M : Nat} (hM : M ≤ n.length) : GoodNet (outTo n P M) := by
  intro i y hy
  obtain ⟨k, h1, h2, rfl, rfl⟩ := outTo_all h0 hy
  obtain ⟨x, hx⟩ := getI n (show k < n.length by omega)
  by_cases hin : x.1 < 0
  · have : nodeC n P k = (-1, 0) := by rw [nodeC, hx]; exact if_pos hin
    rw [this]; unfold badNode; omega
  · have hgt := hg.gate hx (by omega)
    obtain ⟨e, c1, c2⟩ := node_gate hk hx h2 (by omega)
    have b1 := atL_bound (P := P) (k := k) (by omega) hgt.1 c1
    have b2 := atL_bound (P := P) (k := k) hgt.2.1 hgt.2.2 c2
    rw [e]; unfold badNode; omega
theorem few_cnt (hg : GoodNet n) (h0 : ¬ P 0) (hk : ∀ v c, P v → Kid n v c → c = 0 ∨ P c) (ins : List Bool) {M : Nat} (hM : M ≤ n.length) : ∀ k, k ≤ M → cnt (outTo n P M) (rnk P k) = (fewTo n P ins k).length
  | 0, _ => by rw [rnk, sel_no h0]; rfl
  | k + 1, h => by
    have ih := few_cnt hg h0 hk ins hM k (by omega)
    obtain ⟨x, hx⟩ := getI n (show k < n.length by omega)
    by_cases hP : P (k + 1)
    · have hget := outTo_get (n := n) h0 hP (show k < M by omega)
      rw [rnk_yes hP]
      by_cases hin : x.1 < 0
      · have e : nodeC n P k = (-1, 0) := by rw [nodeC, hx]; exact if_pos hin
        rw [e] at hget
        rw [cnt_in hget (by decide), fewTo_yes hx ⟨hin, hP⟩, List.length_append, ih]; rfl
      · have hgt := hg.gate hx (by omega)
        obtain ⟨e, c1, c2⟩ := node_gate hk hx hP (by omega)
        have b1 := atL_bound (P := P) (k := k) (by omega) hgt.1 c1
        rw [e] at hget
        rw [cnt_gate hget (by show ¬ atL P x.1 < 0; omega), fewTo_no hx (fun h => hin h.1), ih]
    · rw [rnk_no hP, fewTo_no hx (fun h => hP h.2), ih]
theorem few_get {ins : List Bool} {k : Nat} {x : Int × Int} (hx : n[k]? = some x) (h : x.1 < 0 ∧ P (k + 1)) : ∀ {M}, k < M → (fewTo n P ins M)[(fewTo n P ins k).length]? = some (ins.getD (cnt n k) false)
  | M + 1, hM => by
    by_cases hkM : k = M
    · subst hkM
      rw [fewTo_yes hx h, List.getElem?_append_right (Nat.le_refl _), Nat.sub_self]; rfl
    · have ih := few_get (ins := ins) hx h (show k < M by omega)
      cases hy : n[M]? with
      | none => rw [fewTo, hy]; exact ih
      | some y =>
        by_cases hM' : y.1 < 0 ∧ P (M + 1)
        · rw [fewTo_yes hy hM', List.getElem?_append_left (lt_of_get ih)]; exact ih
        · rw [fewTo_no hy hM']; exact ih
theorem cut_val (hg : GoodNet n) (h0 : ¬ P 0) (hk : ∀ v c, P v → Kid n v c → c = 0 ∨ P c) (ins : List Bool) : ∀ v, v ≤ n.length → P v → (values (outTo n P n.length) (fewTo n P ins n.length)).getD (rnk P v) false = (values n ins).getD v false := by
  intro v
  induction v using Nat.strongRecOn with
  | _ v ih =>
    intro hv hP
    match v, ih, hv, hP with
    | 0, _, _, hP => exact absurd hP h0
    | k + 1, ih, hv, hP =>
      obtain ⟨x, hx⟩ := getI n (show k < n.length by omega)
      have hget := outTo_get (n := n) h0 hP (show k < n.length by omega)
      have hgo := good_out hg h0 hk (Nat.le_refl n.length)
      rw [rnk_yes hP]
      by_cases hin : x.1 < 0
      · have e : nodeC n P k = (-1, 0) := by rw [nodeC, hx]; exact if_pos hin
        rw [e] at hget
        rw [values_in _ hget (by decide), few_cnt hg h0 hk ins (Nat.le_refl _) k (by omega), getD_of (few_get hx ⟨hin, hP⟩ (show k < n.length by omega)), values_in ins hx hin]
      · have hgt := hg.gate hx (by omega)
        obtain ⟨e, c1, c2⟩ := node_gate hk hx hP (by omega)
        have b1 := atL_bound (P := P) (k := k) (by omega) hgt.1 c1
        have b2 := atL_bound (P := P) (k := k) hgt.2.1 hgt.2.2 c2
        rw [e] at hget
        have hof : ∀ l : Int, 0 ≤ l → l ≤ 2 * k + 1 → ((l / 2).toNat = 0 ∨ P (l / 2).toNat) → ofL (values (outTo n P n.length) (fewTo n P ins n.length)) (atL P l) = ofL (values n ins) l := by
          intro l hl0 hl1 hc
          have b := atL_bound (P := P) (k := k) hl0 hl1 hc
          unfold ofL
          rw [b.2.2.1, b.2.2.2]
          by_cases hz : (l / 2).toNat = 0
          · rw [if_pos hz, hz, values_zero, values_zero]
          · rw [if_neg hz, ih _ (by omega) (by omega) (hc.resolve_left hz)]
        rw [values_gate hgo _ hget (by show 0 ≤ atL P x.1; omega), values_gate hg ins hx (by omega), hof _ (by omega) hgt.1 c1, hof _ hgt.2.1 hgt.2.2 c2]
theorem cut_of (hg : GoodNet n) (h0 : ¬ P 0) (hk : ∀ v c, P v → Kid n v c → c = 0 ∨ P c) (ins : List Bool) {v : Nat} (hv : v ≤ n.length) (ha : 0 ≤ atv P v) : ofL (values (outTo n P n.length) (fewTo n P ins n.length)) (atv P v) = (values n ins).getD v false := by
  unfold atv at ha ⊢
  by_cases hv0 : v = 0
  · rw [if_pos hv0, hv0, values_zero]
    unfold ofL
    rw [show ((0 : Int) / 2).toNat = 0 from rfl, values_zero]; rfl
  · rw [if_neg hv0] at ha ⊢
    by_cases hP : P v
    · rw [if_pos hP]
      unfold ofL
      rw [show (2 * ((rnk P v : Nat) : Int) / 2).toNat = rnk P v by omega, cut_val hg h0 hk ins v hv hP, decide_eq_false (by omega)]; simp
    · rw [if_neg hP] at ha; omega
end cut
theorem factN : FactEq Try.prog 59 := ⟨by kernel_rfl, by kernel_rfl⟩

set_option maxHeartbeats 8000000 in
theorem law_ConeCuts (a b c : Option Addr) (cap cb cc : Nat) (n : List (Int × Int)) (l : List Int) (ins : List Bool) (w : World) (R : Row 2 encN w a n) (Rb : Row 1 encI w b l) (Rc : Row 1 encB w c ins)
    (hnb : b = none → cb = 0) (hl : ∀ x ∈ l, inI64 x) :
    Pure Try.prog 13 [.slice a n.length cap, .slice b l.length cb, .slice c ins.length cc] w (.bool true) := by
  have hli := Rc.len
  by_cases hsm : (n.length ≤ 60 ∧ GoodNet n) ∧ l.length ≤ 40
  · have hg := hsm.1.2
    have hn := hsm.1.1
    have hi := hsm.2
    have hP0 : ¬ OfP n l 0 := fun h => by have := h.1; omega
    have hkid : ∀ v c, OfP n l v → Kid n v c → c = 0 ∨ OfP n l c := fun v c h k => of_kid hg h k
    have hml := outTo_len n hP0 n.length
    have hrl := rnk_le (OfP n l) n.length
    have hal := atT_len n (OfP n l) (n.length + 1)
    have hgo := good_out hg hP0 hkid (Nat.le_refl n.length)
    have hof := fun {v : Nat} => cut_of hg hP0 hkid ins (v := v)
    refine Spec.of _ Try.func13 rfl Try.ntmps13 (by kernel_rfl) rfl ?_
    repeat' (first
      | ((show WL _ _ _ (⟨_, .call ⟨.value (.func 28), _, _⟩, _, _, _, _⟩ :: _) _ _ _); apply WL.callS; exact rfl; exact rfl; exact rfl; exact rfl; exact law07_Small _ _ _ _ _ R (by omega))
      | (apply WL.gT; exact rfl; exact rfl; (focus (first | exact dec_true ⟨by omega, hg⟩ | exact dec_false (by omega) | (rw [dec_true ⟨by omega, hg⟩]; rfl); done)))
      | (apply WL.gF; exact rfl; exact rfl; (focus (first | exact dec_true ⟨by omega, hg⟩ | exact dec_false (by omega) | (rw [dec_true ⟨by omega, hg⟩]; rfl); done)))
      | (apply W.condKT; exact rfl; (focus (first | exact dec_true ⟨by omega, hg⟩ | exact dec_false (by omega) | (rw [dec_true ⟨by omega, hg⟩]; rfl); done)))
      | (apply W.condKF; exact rfl; (focus (first | exact dec_true ⟨by omega, hg⟩ | exact dec_false (by omega) | (rw [dec_true ⟨by omega, hg⟩]; rfl); done)))
      | (apply WL.lit (len := 0) tOk; exact rfl; exact rfl; exact rfl; exact rfl; exact rfl; exact rfl; (first | exact rfl | kernel_rfl | (simp [Instr.fill, catCells]; done)); exact rfl; intro gb w' hb hge hc hx; have hO0 := Own.of_block0 (enc := encI) (s := 1) hb hge)
      | (apply WL.appendS tOk encI_ok; exact rfl; exact rfl; exact rfl; exact rfl; exact rfl; exact rfl; exact rfl; exact rfl; exact rfl; exact rfl; assumption; (first | exact Ext.refl _ | assumption | exact Ext.trans (by assumption) (by assumption) | (focus (repeat (first | exact Ext.refl _ | assumption | (apply Ext.trans; rotate_left; assumption))); done) | solve_by_elim (maxDepth := 8) [Ext.trans]); (first | exact rfl | (simp; done) | (simp [*]; done) | omega); assumption; (first | exact Ext.refl _ | assumption | exact Ext.trans (by assumption) (by assumption) | (focus (repeat (first | exact Ext.refl _ | assumption | (apply Ext.trans; rotate_left; assumption))); done) | solve_by_elim (maxDepth := 8) [Ext.trans]); (first | exact rfl | (simp; done) | (simp [*]; done) | omega); (first | assumption | (intro h; cases h) | exact Own.noneCap (by assumption)); exact rfl; (first | exact Ext.refl _ | assumption | exact Ext.trans (by assumption) (by assumption) | (focus (repeat (first | exact Ext.refl _ | assumption | (apply Ext.trans; rotate_left; assumption))); done) | solve_by_elim (maxDepth := 8) [Ext.trans]); (first | omega | (simp; omega) | (simp at *; omega)); intro a' cap' w' hO hX' hU hF)
      | (show WL _ _ _ _ _ _ _; first | apply WL.nil | (apply WL.pev tOk; exact rfl; exact rfl; exact rfl) | (apply WL.load tOk; exact rfl; exact rfl; exact rfl; exact rfl; exact rfl; (first | assumption | (focus (apply Ext.cell; rotate_left; assumption; (first | exact Ext.refl _ | assumption | exact Ext.trans (by assumption) (by assumption) | (focus (repeat (first | exact Ext.refl _ | assumption | (apply Ext.trans; rotate_left; assumption))); done) | solve_by_elim (maxDepth := 8) [Ext.trans]); done)))) | (apply WL.index tOk; exact rfl; exact rfl; exact rfl; exact rfl; exact rfl; exact rfl; exact rfl; exact rfl; assumption; (first | exact Ext.refl _ | assumption | exact Ext.trans (by assumption) (by assumption) | (focus (repeat (first | exact Ext.refl _ | assumption | (apply Ext.trans; rotate_left; assumption))); done) | solve_by_elim (maxDepth := 8) [Ext.trans]); exact rfl; omega; assumption; intro b off h; have hcc := h; first | (obtain ⟨h1, h2, _⟩ := h) | (obtain ⟨h1, _⟩ := h)) | (apply WL.add; exact rfl; exact rfl; exact rfl; exact rfl; omega) | (apply WL.sub; exact rfl; exact rfl; exact rfl; exact rfl; omega) | (apply WL.mul; exact rfl; exact rfl; exact rfl; exact rfl; omega) | (apply WL.quo; exact rfl; exact rfl; exact rfl; exact rfl; omega) | (apply WL.rem; exact rfl; exact rfl; exact rfl; exact rfl; omega) | (apply WL.loadA tOk; exact rfl; exact rfl; exact rfl; exact rfl; exact rfl; (first | assumption | (focus (apply Cells.ext; rotate_left; assumption; (first | exact Ext.refl _ | assumption | exact Ext.trans (by assumption) (by assumption) | (focus (repeat (first | exact Ext.refl _ | assumption | (apply Ext.trans; rotate_left; assumption))); done) | solve_by_elim (maxDepth := 8) [Ext.trans]); done))); exact rfl) | (apply WL.guardF; exact rfl; exact rfl) | (apply WL.gD; exact rfl; exact rfl; all_goals intro _) | (apply WL.gN; exact rfl; exact rfl; all_goals intro _) | (apply WL.gB; exact rfl; exact rfl; all_goals intro _))
      | (show Z _ _ _ _ _; first | apply Z.tail | apply Z.then_normal | apply Z.block_normal | apply Z.then_exit | apply Z.block_exit | apply Z.then_ret | apply Z.block_ret | (apply Z.block_other; exact rfl))
      | (show W _ _ _ _ _ _; first | apply W.seq | apply W.region | apply W.block | apply W.skip | apply W.ret | apply W.exit | (apply W.condT; exact rfl) | (apply W.condF; exact rfl) | (apply W.condD; exact rfl; all_goals intro _) | (apply W.condN; exact rfl; all_goals intro _) | (apply W.condB; exact rfl; all_goals intro _)))
    have Ro := Own.row encI_ok hO
    simp only [List.nil_append] at Ro ⊢
    repeat' (first
      | (((show WL _ _ _ (⟨_, .call ⟨.value (.func 61), _, _⟩, _, _, _, _⟩ :: _) _ _ _); apply WL.call; exact rfl; exact rfl; exact rfl; exact rfl; exact cone_Cut _ _ _ _ n l _ (R.ext (by (first | exact Ext.refl _ | assumption | exact Ext.trans (by assumption) (by assumption) | (focus (repeat (first | exact Ext.refl _ | assumption | (apply Ext.trans; rotate_left; assumption))); done) | solve_by_elim (maxDepth := 8) [Ext.trans]))) Ro hg (by omega) hl; rintro v' w' ⟨hx, m1, cm1, a1, ca1, rfl, hM1, hA1⟩))
      | (show WL _ _ _ _ _ _ _; first | apply WL.nil | (apply WL.pev tOk; exact rfl; exact rfl; exact rfl) | (apply WL.load tOk; exact rfl; exact rfl; exact rfl; exact rfl; exact rfl; (first | assumption | (focus (apply Ext.cell; rotate_left; assumption; (first | exact Ext.refl _ | assumption | exact Ext.trans (by assumption) (by assumption) | (focus (repeat (first | exact Ext.refl _ | assumption | (apply Ext.trans; rotate_left; assumption))); done) | solve_by_elim (maxDepth := 8) [Ext.trans]); done)))) | (apply WL.index tOk; exact rfl; exact rfl; exact rfl; exact rfl; exact rfl; exact rfl; exact rfl; exact rfl; assumption; (first | exact Ext.refl _ | assumption | exact Ext.trans (by assumption) (by assumption) | (focus (repeat (first | exact Ext.refl _ | assumption | (apply Ext.trans; rotate_left; assumption))); done) | solve_by_elim (maxDepth := 8) [Ext.trans]); exact rfl; omega; assumption; intro b off h; have hcc := h; first | (obtain ⟨h1, h2, _⟩ := h) | (obtain ⟨h1, _⟩ := h)) | (apply WL.add; exact rfl; exact rfl; exact rfl; exact rfl; omega) | (apply WL.sub; exact rfl; exact rfl; exact rfl; exact rfl; omega) | (apply WL.mul; exact rfl; exact rfl; exact rfl; exact rfl; omega) | (apply WL.quo; exact rfl; exact rfl; exact rfl; exact rfl; omega) | (apply WL.rem; exact rfl; exact rfl; exact rfl; exact rfl; omega) | (apply WL.loadA tOk; exact rfl; exact rfl; exact rfl; exact rfl; exact rfl; (first | assumption | (focus (apply Cells.ext; rotate_left; assumption; (first | exact Ext.refl _ | assumption | exact Ext.trans (by assumption) (by assumption) | (focus (repeat (first | exact Ext.refl _ | assumption | (apply Ext.trans; rotate_left; assumption))); done) | solve_by_elim (maxDepth := 8) [Ext.trans]); done))); exact rfl) | (apply WL.guardF; exact rfl; exact rfl) | (apply WL.gD; exact rfl; exact rfl; all_goals intro _) | (apply WL.gN; exact rfl; exact rfl; all_goals intro _) | (apply WL.gB; exact rfl; exact rfl; all_goals intro _))
      | (show Z _ _ _ _ _; first | apply Z.tail | apply Z.then_normal | apply Z.block_normal | apply Z.then_exit | apply Z.block_exit | apply Z.then_ret | apply Z.block_ret | (apply Z.block_other; exact rfl))
      | (show W _ _ _ _ _ _; first | apply W.seq | apply W.region | apply W.block | apply W.skip | apply W.ret | apply W.exit | (apply W.condT; exact rfl) | (apply W.condF; exact rfl) | (apply W.condD; exact rfl; all_goals intro _) | (apply W.condN; exact rfl; all_goals intro _) | (apply W.condB; exact rfl; all_goals intro _)))
    obtain ⟨w1, rfl⟩ : ∃ x, x = w' := ⟨_, rfl⟩
    have hx1 : Ext w w1 := (by (first | exact Ext.refl _ | assumption | exact Ext.trans (by assumption) (by assumption) | (focus (repeat (first | exact Ext.refl _ | assumption | (apply Ext.trans; rotate_left; assumption))); done) | solve_by_elim (maxDepth := 8) [Ext.trans]))
    repeat' (first
      | (((show WL _ _ _ (⟨_, .call ⟨.value (.func 62), _, _⟩, _, _, _, _⟩ :: _) _ _ _); apply WL.call; exact rfl; exact rfl; exact rfl; exact rfl; exact ref08_Cut _ _ _ _ n l _ (R.ext hx1) (Rb.ext hx1) hg (by omega) hl; rintro v' w' ⟨hx, m2, cm2, a2, ca2, rfl, hM2, hA2⟩; have RM1 := (Own.row encN_ok hM1).ext hx; have RA1 := (Own.row encI_ok hA1).ext hx; have RM2 := Own.row encN_ok hM2; have RA2 := Own.row encI_ok hA2))
      | ((show WL _ _ _ (⟨_, .call ⟨.value (.func 52), _, _⟩, _, _, _, _⟩ :: _) _ _ _); apply WL.callS; exact rfl; exact rfl; exact rfl; exact rfl; exact ref_Ints _ _ _ _ (atT n (OfP n l) (n.length + 1)) (atT n (OfP n l) (n.length + 1)) _ RA1 RA2)
      | (apply WL.gT; exact rfl; exact rfl; (focus (first | exact dec_false (fun h => h rfl) | (rw [dec_true rfl]; rfl); done)))
      | (apply WL.gF; exact rfl; exact rfl; (focus (first | exact dec_false (fun h => h rfl) | (rw [dec_true rfl]; rfl); done)))
      | (apply W.condKT; exact rfl; (focus (first | exact dec_false (fun h => h rfl) | (rw [dec_true rfl]; rfl); done)))
      | (apply W.condKF; exact rfl; (focus (first | exact dec_false (fun h => h rfl) | (rw [dec_true rfl]; rfl); done)))
      | (show WL _ _ _ _ _ _ _; first | apply WL.nil | (apply WL.pev tOk; exact rfl; exact rfl; exact rfl) | (apply WL.load tOk; exact rfl; exact rfl; exact rfl; exact rfl; exact rfl; (first | assumption | (focus (apply Ext.cell; rotate_left; assumption; (first | exact Ext.refl _ | assumption | exact Ext.trans (by assumption) (by assumption) | (focus (repeat (first | exact Ext.refl _ | assumption | (apply Ext.trans; rotate_left; assumption))); done) | solve_by_elim (maxDepth := 8) [Ext.trans]); done)))) | (apply WL.index tOk; exact rfl; exact rfl; exact rfl; exact rfl; exact rfl; exact rfl; exact rfl; exact rfl; assumption; (first | exact Ext.refl _ | assumption | exact Ext.trans (by assumption) (by assumption) | (focus (repeat (first | exact Ext.refl _ | assumption | (apply Ext.trans; rotate_left; assumption))); done) | solve_by_elim (maxDepth := 8) [Ext.trans]); exact rfl; omega; assumption; intro b off h; have hcc := h; first | (obtain ⟨h1, h2, _⟩ := h) | (obtain ⟨h1, _⟩ := h)) | (apply WL.add; exact rfl; exact rfl; exact rfl; exact rfl; omega) | (apply WL.sub; exact rfl; exact rfl; exact rfl; exact rfl; omega) | (apply WL.mul; exact rfl; exact rfl; exact rfl; exact rfl; omega) | (apply WL.quo; exact rfl; exact rfl; exact rfl; exact rfl; omega) | (apply WL.rem; exact rfl; exact rfl; exact rfl; exact rfl; omega) | (apply WL.loadA tOk; exact rfl; exact rfl; exact rfl; exact rfl; exact rfl; (first | assumption | (focus (apply Cells.ext; rotate_left; assumption; (first | exact Ext.refl _ | assumption | exact Ext.trans (by assumption) (by assumption) | (focus (repeat (first | exact Ext.refl _ | assumption | (apply Ext.trans; rotate_left; assumption))); done) | solve_by_elim (maxDepth := 8) [Ext.trans]); done))); exact rfl) | (apply WL.guardF; exact rfl; exact rfl) | (apply WL.gD; exact rfl; exact rfl; all_goals intro _) | (apply WL.gN; exact rfl; exact rfl; all_goals intro _) | (apply WL.gB; exact rfl; exact rfl; all_goals intro _))
      | (show Z _ _ _ _ _; first | apply Z.tail | apply Z.then_normal | apply Z.block_normal | apply Z.then_exit | apply Z.block_exit | apply Z.then_ret | apply Z.block_ret | (apply Z.block_other; exact rfl))
      | (show W _ _ _ _ _ _; first | apply W.seq | apply W.region | apply W.block | apply W.skip | apply W.ret | apply W.exit | (apply W.condT; exact rfl) | (apply W.condF; exact rfl) | (apply W.condD; exact rfl; all_goals intro _) | (apply W.condN; exact rfl; all_goals intro _) | (apply W.condB; exact rfl; all_goals intro _)))
    obtain ⟨w2, rfl⟩ : ∃ x, x = w' := ⟨_, rfl⟩
    have hx2 : Ext w w2 := (by (first | exact Ext.refl _ | assumption | exact Ext.trans (by assumption) (by assumption) | (focus (repeat (first | exact Ext.refl _ | assumption | (apply Ext.trans; rotate_left; assumption))); done) | solve_by_elim (maxDepth := 8) [Ext.trans]))
    refine W.loop1 (outTo n (OfP n l) n.length).length (fun k => k ≤ (outTo n (OfP n l) n.length).length) (fun k => [(0, .slice a n.length cap), (1, .slice b l.length cb), (2, .slice c ins.length cc), (7, .slice m1 (outTo n (OfP n l) n.length).length cm1), (8, .slice a1 (atT n (OfP n l) (n.length + 1)).length ca1), (9, .slice m2 (outTo n (OfP n l) n.length).length cm2), (11, .int .i64 k)]) (by omega) (fun k h => h) ⟨rfl, rfl, rfl, rfl, rfl, rfl, rfl, trivial⟩ ?_
    rintro k hk
    by_cases hlt : k < (outTo n (OfP n l) n.length).length
    · obtain ⟨z, hz⟩ := getI (outTo n (OfP n l) n.length) hlt
      repeat' (first
        | (apply WL.gT; exact rfl; exact rfl; (focus (first | exact dec_true (by omega) | exact dec_false (fun h => h rfl); done)))
        | (apply WL.gF; exact rfl; exact rfl; (focus (first | exact dec_true (by omega) | exact dec_false (fun h => h rfl); done)))
        | (apply QL.gT; exact rfl; exact rfl; (focus (first | exact dec_true (by omega) | exact dec_false (fun h => h rfl); done)))
        | (apply QL.gF; exact rfl; exact rfl; (focus (first | exact dec_true (by omega) | exact dec_false (fun h => h rfl); done)))
        | (apply W.condKT; exact rfl; (focus (first | exact dec_true (by omega) | exact dec_false (fun h => h rfl); done)))
        | (apply W.condKF; exact rfl; (focus (first | exact dec_true (by omega) | exact dec_false (fun h => h rfl); done)))
        | (apply WL.neqS tOk; exact rfl; exact rfl; exact rfl; exact rfl; exact rfl; exact rfl; exact rfl; exact factN)
        | (apply QL.neqS tOk; exact rfl; exact rfl; exact rfl; exact rfl; exact rfl; exact rfl; exact rfl; exact factN)
        | (show WL _ _ _ _ _ _ _; first | apply WL.nil | (apply WL.pev tOk; exact rfl; exact rfl; exact rfl) | (apply WL.load tOk; exact rfl; exact rfl; exact rfl; exact rfl; exact rfl; (first | assumption | (focus (apply Ext.cell; rotate_left; assumption; (first | exact Ext.refl _ | assumption | exact Ext.trans (by assumption) (by assumption) | (focus (repeat (first | exact Ext.refl _ | assumption | (apply Ext.trans; rotate_left; assumption))); done) | solve_by_elim (maxDepth := 8) [Ext.trans]); done)))) | (apply WL.index tOk; exact rfl; exact rfl; exact rfl; exact rfl; exact rfl; exact rfl; exact rfl; exact rfl; assumption; (first | exact Ext.refl _ | assumption | exact Ext.trans (by assumption) (by assumption) | (focus (repeat (first | exact Ext.refl _ | assumption | (apply Ext.trans; rotate_left; assumption))); done) | solve_by_elim (maxDepth := 8) [Ext.trans]); exact rfl; omega; assumption; intro b off h; have hcc := h; first | (obtain ⟨h1, h2, _⟩ := h) | (obtain ⟨h1, _⟩ := h)) | (apply WL.add; exact rfl; exact rfl; exact rfl; exact rfl; omega) | (apply WL.sub; exact rfl; exact rfl; exact rfl; exact rfl; omega) | (apply WL.mul; exact rfl; exact rfl; exact rfl; exact rfl; omega) | (apply WL.quo; exact rfl; exact rfl; exact rfl; exact rfl; omega) | (apply WL.rem; exact rfl; exact rfl; exact rfl; exact rfl; omega) | (apply WL.loadA tOk; exact rfl; exact rfl; exact rfl; exact rfl; exact rfl; (first | assumption | (focus (apply Cells.ext; rotate_left; assumption; (first | exact Ext.refl _ | assumption | exact Ext.trans (by assumption) (by assumption) | (focus (repeat (first | exact Ext.refl _ | assumption | (apply Ext.trans; rotate_left; assumption))); done) | solve_by_elim (maxDepth := 8) [Ext.trans]); done))); exact rfl) | (apply WL.guardF; exact rfl; exact rfl) | (apply WL.gD; exact rfl; exact rfl; all_goals intro _) | (apply WL.gN; exact rfl; exact rfl; all_goals intro _) | (apply WL.gB; exact rfl; exact rfl; all_goals intro _))
        | (show QL _ _ _ _ _ _ _; first | apply QL.nil | (apply QL.pev tOk; exact rfl; exact rfl; exact rfl) | (apply QL.load tOk; exact rfl; exact rfl; exact rfl; exact rfl; exact rfl; (first | assumption | (focus (apply Ext.cell; rotate_left; assumption; (first | exact Ext.refl _ | assumption | exact Ext.trans (by assumption) (by assumption) | (focus (repeat (first | exact Ext.refl _ | assumption | (apply Ext.trans; rotate_left; assumption))); done) | solve_by_elim (maxDepth := 8) [Ext.trans]); done)))) | (apply QL.index tOk; exact rfl; exact rfl; exact rfl; exact rfl; exact rfl; exact rfl; exact rfl; exact rfl; assumption; (first | exact Ext.refl _ | assumption | exact Ext.trans (by assumption) (by assumption) | (focus (repeat (first | exact Ext.refl _ | assumption | (apply Ext.trans; rotate_left; assumption))); done) | solve_by_elim (maxDepth := 8) [Ext.trans]); exact rfl; omega; assumption; intro b off h; have hcc := h; first | (obtain ⟨h1, h2, _⟩ := h) | (obtain ⟨h1, _⟩ := h)) | (apply QL.add; exact rfl; exact rfl; exact rfl; exact rfl; omega) | (apply QL.sub; exact rfl; exact rfl; exact rfl; exact rfl; omega) | (apply QL.mul; exact rfl; exact rfl; exact rfl; exact rfl; omega) | (apply QL.quo; exact rfl; exact rfl; exact rfl; exact rfl; omega) | (apply QL.rem; exact rfl; exact rfl; exact rfl; exact rfl; omega) | (apply QL.loadA tOk; exact rfl; exact rfl; exact rfl; exact rfl; exact rfl; (first | assumption | (focus (apply Cells.ext; rotate_left; assumption; (first | exact Ext.refl _ | assumption | exact Ext.trans (by assumption) (by assumption) | (focus (repeat (first | exact Ext.refl _ | assumption | (apply Ext.trans; rotate_left; assumption))); done) | solve_by_elim (maxDepth := 8) [Ext.trans]); done))); exact rfl) | (apply QL.guardF; exact rfl; exact rfl) | (apply QL.gD; exact rfl; exact rfl; all_goals intro _) | (apply QL.gN; exact rfl; exact rfl; all_goals intro _) | (apply QL.gB; exact rfl; exact rfl; all_goals intro _))
        | (show Z _ _ _ _ _; first | apply Z.tail | apply Z.then_normal | apply Z.block_normal | apply Z.then_exit | apply Z.block_exit | apply Z.then_ret | apply Z.block_ret | (apply Z.block_other; exact rfl))
        | (show W _ _ _ _ _ _; first | apply W.seq | apply W.region | apply W.block | apply W.skip | apply W.ret | apply W.exit | (apply W.condT; exact rfl) | (apply W.condF; exact rfl) | (apply W.condD; exact rfl; all_goals intro _) | (apply W.condN; exact rfl; all_goals intro _) | (apply W.condB; exact rfl; all_goals intro _) | (apply W.regionD tMix; kernel_rfl)))
      exact Z.again1 (by omega) ⟨rfl, rfl, rfl, rfl, rfl, rfl, rfl, trivial⟩
    · repeat' (first
        | (apply WL.gT; exact rfl; exact rfl; (focus (exact dec_false (by omega); done)))
        | (apply WL.gF; exact rfl; exact rfl; (focus (exact dec_false (by omega); done)))
        | (apply W.condKT; exact rfl; (focus (exact dec_false (by omega); done)))
        | (apply W.condKF; exact rfl; (focus (exact dec_false (by omega); done)))
        | ((show WL _ _ _ (⟨_, .call ⟨.value (.func 32), _, _⟩, _, _, _, _⟩ :: _) _ _ _); apply WL.call; exact rfl; exact rfl; exact rfl; exact rfl; exact ref07_Values _ _ _ _ n ins _ (R.ext hx2) (Rc.ext hx2) hg (by omega); rintro v' w' ⟨hx, a', cap', rfl, hO⟩)
        | (show WL _ _ _ _ _ _ _; first | apply WL.nil | (apply WL.pev tOk; exact rfl; exact rfl; exact rfl) | (apply WL.load tOk; exact rfl; exact rfl; exact rfl; exact rfl; exact rfl; (first | assumption | (focus (apply Ext.cell; rotate_left; assumption; (first | exact Ext.refl _ | assumption | exact Ext.trans (by assumption) (by assumption) | (focus (repeat (first | exact Ext.refl _ | assumption | (apply Ext.trans; rotate_left; assumption))); done) | solve_by_elim (maxDepth := 8) [Ext.trans]); done)))) | (apply WL.index tOk; exact rfl; exact rfl; exact rfl; exact rfl; exact rfl; exact rfl; exact rfl; exact rfl; assumption; (first | exact Ext.refl _ | assumption | exact Ext.trans (by assumption) (by assumption) | (focus (repeat (first | exact Ext.refl _ | assumption | (apply Ext.trans; rotate_left; assumption))); done) | solve_by_elim (maxDepth := 8) [Ext.trans]); exact rfl; omega; assumption; intro b off h; have hcc := h; first | (obtain ⟨h1, h2, _⟩ := h) | (obtain ⟨h1, _⟩ := h)) | (apply WL.add; exact rfl; exact rfl; exact rfl; exact rfl; omega) | (apply WL.sub; exact rfl; exact rfl; exact rfl; exact rfl; omega) | (apply WL.mul; exact rfl; exact rfl; exact rfl; exact rfl; omega) | (apply WL.quo; exact rfl; exact rfl; exact rfl; exact rfl; omega) | (apply WL.rem; exact rfl; exact rfl; exact rfl; exact rfl; omega) | (apply WL.loadA tOk; exact rfl; exact rfl; exact rfl; exact rfl; exact rfl; (first | assumption | (focus (apply Cells.ext; rotate_left; assumption; (first | exact Ext.refl _ | assumption | exact Ext.trans (by assumption) (by assumption) | (focus (repeat (first | exact Ext.refl _ | assumption | (apply Ext.trans; rotate_left; assumption))); done) | solve_by_elim (maxDepth := 8) [Ext.trans]); done))); exact rfl) | (apply WL.guardF; exact rfl; exact rfl) | (apply WL.gD; exact rfl; exact rfl; all_goals intro _) | (apply WL.gN; exact rfl; exact rfl; all_goals intro _) | (apply WL.gB; exact rfl; exact rfl; all_goals intro _))
        | (show Z _ _ _ _ _; first | apply Z.tail | apply Z.then_normal | apply Z.block_normal | apply Z.then_exit | apply Z.block_exit | apply Z.then_ret | apply Z.block_ret | (apply Z.block_other; exact rfl))
        | (show W _ _ _ _ _ _; first | apply W.seq | apply W.region | apply W.block | apply W.skip | apply W.ret | apply W.exit | (apply W.condT; exact rfl) | (apply W.condF; exact rfl) | (apply W.condD; exact rfl; all_goals intro _) | (apply W.condN; exact rfl; all_goals intro _) | (apply W.condB; exact rfl; all_goals intro _)))
      have RV := Own.row encB_ok hO
      have hvl := values_len' n ins
      obtain ⟨va, rfl⟩ : ∃ x, x = a' := ⟨_, rfl⟩; obtain ⟨cva, rfl⟩ : ∃ x, x = cap' := ⟨_, rfl⟩; obtain ⟨w3, rfl⟩ : ∃ x, x = w' := ⟨_, rfl⟩
      have hx3 : Ext w2 w3 := (by (first | exact Ext.refl _ | assumption | exact Ext.trans (by assumption) (by assumption) | (focus (repeat (first | exact Ext.refl _ | assumption | (apply Ext.trans; rotate_left; assumption))); done) | solve_by_elim (maxDepth := 8) [Ext.trans]))
      repeat' (first
        | (apply WL.lit (len := 0) tOk; exact rfl; exact rfl; exact rfl; exact rfl; exact rfl; exact rfl; (first | exact rfl | kernel_rfl | (simp [Instr.fill, catCells]; done)); exact rfl; intro gb w' hb hge hc hx; have hO0 := Own.of_block0 (enc := encB) (s := 1) hb hge)
        | (show WL _ _ _ _ _ _ _; first | apply WL.nil | (apply WL.pev tOk; exact rfl; exact rfl; exact rfl) | (apply WL.load tOk; exact rfl; exact rfl; exact rfl; exact rfl; exact rfl; (first | assumption | (focus (apply Ext.cell; rotate_left; assumption; (first | exact Ext.refl _ | assumption | exact Ext.trans (by assumption) (by assumption) | (focus (repeat (first | exact Ext.refl _ | assumption | (apply Ext.trans; rotate_left; assumption))); done) | solve_by_elim (maxDepth := 8) [Ext.trans]); done)))) | (apply WL.index tOk; exact rfl; exact rfl; exact rfl; exact rfl; exact rfl; exact rfl; exact rfl; exact rfl; assumption; (first | exact Ext.refl _ | assumption | exact Ext.trans (by assumption) (by assumption) | (focus (repeat (first | exact Ext.refl _ | assumption | (apply Ext.trans; rotate_left; assumption))); done) | solve_by_elim (maxDepth := 8) [Ext.trans]); exact rfl; omega; assumption; intro b off h; have hcc := h; first | (obtain ⟨h1, h2, _⟩ := h) | (obtain ⟨h1, _⟩ := h)) | (apply WL.add; exact rfl; exact rfl; exact rfl; exact rfl; omega) | (apply WL.sub; exact rfl; exact rfl; exact rfl; exact rfl; omega) | (apply WL.mul; exact rfl; exact rfl; exact rfl; exact rfl; omega) | (apply WL.quo; exact rfl; exact rfl; exact rfl; exact rfl; omega) | (apply WL.rem; exact rfl; exact rfl; exact rfl; exact rfl; omega) | (apply WL.loadA tOk; exact rfl; exact rfl; exact rfl; exact rfl; exact rfl; (first | assumption | (focus (apply Cells.ext; rotate_left; assumption; (first | exact Ext.refl _ | assumption | exact Ext.trans (by assumption) (by assumption) | (focus (repeat (first | exact Ext.refl _ | assumption | (apply Ext.trans; rotate_left; assumption))); done) | solve_by_elim (maxDepth := 8) [Ext.trans]); done))); exact rfl) | (apply WL.guardF; exact rfl; exact rfl) | (apply WL.gD; exact rfl; exact rfl; all_goals intro _) | (apply WL.gN; exact rfl; exact rfl; all_goals intro _) | (apply WL.gB; exact rfl; exact rfl; all_goals intro _))
        | (show Z _ _ _ _ _; first | apply Z.tail | apply Z.then_normal | apply Z.block_normal | apply Z.then_exit | apply Z.block_exit | apply Z.then_ret | apply Z.block_ret | (apply Z.block_other; exact rfl))
        | (show W _ _ _ _ _ _; first | apply W.seq | apply W.region | apply W.block | apply W.skip | apply W.ret | apply W.exit | (apply W.condT; exact rfl) | (apply W.condF; exact rfl) | (apply W.condD; exact rfl; all_goals intro _) | (apply W.condN; exact rfl; all_goals intro _) | (apply W.condB; exact rfl; all_goals intro _)))
      refine W.loopO n.length (fun k c' cp w' => k ≤ n.length ∧ Ext w3 w' ∧ Own 1 encB 4 w3.heap.size w' c' cp (fewTo n (OfP n l) ins k))
        (fun k c' cp => [(0, .slice a n.length cap), (2, .slice c ins.length cc), (7, .slice m1 (outTo n (OfP n l) n.length).length cm1), (8, .slice a1 (atT n (OfP n l) (n.length + 1)).length ca1), (12, .slice va (values n ins).length cva), (13, .slice c' (fewTo n (OfP n l) ins k).length cp), (14, .int .i64 (cnt n k : Nat)), (15, .int .i64 k)]) (some ⟨gb, 0, none⟩) 0 ⟨by omega, hx, hO0⟩ (fun k c cp w' h => h.1) ⟨rfl, rfl, rfl, rfl, rfl, rfl, rfl, rfl, trivial⟩ ?_
      rintro k c' cp w' ⟨hk, hx', hO'⟩
      have hxw : Ext w w' := hx2.trans (hx3.trans hx')
      have hx2w : Ext w2 w' := hx3.trans hx'
      have hcl := cnt_le n k
      have hfl := fewTo_le n (OfP n l) ins k
      by_cases hlt : k < n.length
      · obtain ⟨x, hxn⟩ := getI n hlt
        have hat := atT_get (n := n) (P := OfP n l) (k := n.length + 1) (u := k + 1) (by omega) (by omega)
        have hat1 : (atT n (OfP n l) (n.length + 1))[((k : Int) + 1).toNat]? = some (atv (OfP n l) (k + 1)) := by rw [show ((k : Int) + 1).toNat = k + 1 by omega]; exact hat
        by_cases hin : x.1 < 0
        · have e2 := cnt_in hxn hin
          have e3 : ((cnt n k : Nat) : Int) + 1 = ((cnt n (k + 1) : Nat) : Int) := by rw [e2]; rfl
          by_cases hy : OfP n l (k + 1)
          · have e1 := fewTo_yes (ins := ins) hxn ⟨hin, hy⟩
            have hav : 0 ≤ atv (OfP n l) (k + 1) := by rw [atv, if_neg (by omega), if_pos hy]; omega
            by_cases hka : cnt n k < ins.length
            · obtain ⟨z, hz⟩ := getI ins hka
              rw [getD_of hz] at e1
              repeat' (first
                | (apply WL.gT; exact rfl; exact rfl; (focus (first | exact dec_true (by omega) | exact dec_false (by omega); done)))
                | (apply WL.gF; exact rfl; exact rfl; (focus (first | exact dec_true (by omega) | exact dec_false (by omega); done)))
                | (apply W.condKT; exact rfl; (focus (first | exact dec_true (by omega) | exact dec_false (by omega); done)))
                | (apply W.condKF; exact rfl; (focus (first | exact dec_true (by omega) | exact dec_false (by omega); done)))
                | (apply WL.lit tOk; exact rfl; exact rfl; exact rfl; exact rfl; exact rfl; exact rfl; (first | exact rfl | kernel_rfl | (simp [Instr.fill, catCells]; done)); exact rfl; intro gb w' hb hge hc hx)
                | (apply WL.append1 tOk encB_ok; exact rfl; exact rfl; exact rfl; exact rfl; exact rfl; exact rfl; exact rfl; exact rfl; exact rfl; exact rfl; assumption; (first | exact Ext.refl _ | assumption | exact Ext.trans (by assumption) (by assumption) | (focus (repeat (first | exact Ext.refl _ | assumption | (apply Ext.trans; rotate_left; assumption))); done) | solve_by_elim (maxDepth := 8) [Ext.trans]); (first | exact rfl | (simp; done) | (simp [*]; done) | omega); assumption; (first | exact rfl | exact (rfl : encB (_, _) = _)); exact rfl; (first | exact Ext.refl _ | assumption | exact Ext.trans (by assumption) (by assumption) | (focus (repeat (first | exact Ext.refl _ | assumption | (apply Ext.trans; rotate_left; assumption))); done) | solve_by_elim (maxDepth := 8) [Ext.trans]); (first | omega | (simp; omega) | (simp at *; omega)); intro a' cap' w' hO hX' hU hF)
                | (show WL _ _ _ _ _ _ _; first | apply WL.nil | (apply WL.pev tOk; exact rfl; exact rfl; exact rfl) | (apply WL.load tOk; exact rfl; exact rfl; exact rfl; exact rfl; exact rfl; (first | assumption | (focus (apply Ext.cell; rotate_left; assumption; (first | exact Ext.refl _ | assumption | exact Ext.trans (by assumption) (by assumption) | (focus (repeat (first | exact Ext.refl _ | assumption | (apply Ext.trans; rotate_left; assumption))); done) | solve_by_elim (maxDepth := 8) [Ext.trans]); done)))) | (apply WL.index tOk; exact rfl; exact rfl; exact rfl; exact rfl; exact rfl; exact rfl; exact rfl; exact rfl; assumption; (first | exact Ext.refl _ | assumption | exact Ext.trans (by assumption) (by assumption) | (focus (repeat (first | exact Ext.refl _ | assumption | (apply Ext.trans; rotate_left; assumption))); done) | solve_by_elim (maxDepth := 8) [Ext.trans]); exact rfl; omega; assumption; intro b off h; have hcc := h; first | (obtain ⟨h1, h2, _⟩ := h) | (obtain ⟨h1, _⟩ := h)) | (apply WL.add; exact rfl; exact rfl; exact rfl; exact rfl; omega) | (apply WL.sub; exact rfl; exact rfl; exact rfl; exact rfl; omega) | (apply WL.mul; exact rfl; exact rfl; exact rfl; exact rfl; omega) | (apply WL.quo; exact rfl; exact rfl; exact rfl; exact rfl; omega) | (apply WL.rem; exact rfl; exact rfl; exact rfl; exact rfl; omega) | (apply WL.loadA tOk; exact rfl; exact rfl; exact rfl; exact rfl; exact rfl; (first | assumption | (focus (apply Cells.ext; rotate_left; assumption; (first | exact Ext.refl _ | assumption | exact Ext.trans (by assumption) (by assumption) | (focus (repeat (first | exact Ext.refl _ | assumption | (apply Ext.trans; rotate_left; assumption))); done) | solve_by_elim (maxDepth := 8) [Ext.trans]); done))); exact rfl) | (apply WL.guardF; exact rfl; exact rfl) | (apply WL.gD; exact rfl; exact rfl; all_goals intro _) | (apply WL.gN; exact rfl; exact rfl; all_goals intro _) | (apply WL.gB; exact rfl; exact rfl; all_goals intro _))
                | (show Z _ _ _ _ _; first | apply Z.tail | apply Z.then_normal | apply Z.block_normal | apply Z.then_exit | apply Z.block_exit | apply Z.then_ret | apply Z.block_ret | (apply Z.block_other; exact rfl))
                | (show W _ _ _ _ _ _; first | apply W.seq | apply W.region | apply W.block | apply W.skip | apply W.ret | apply W.exit | (apply W.condT; exact rfl) | (apply W.condF; exact rfl) | (apply W.condD; exact rfl; all_goals intro _) | (apply W.condN; exact rfl; all_goals intro _) | (apply W.condB; exact rfl; all_goals intro _)))
              exact Z.againO a' cap' ⟨by omega, by assumption, by rw [e1]; exact hO⟩ (by repeat' first | exact trivial | (refine And.intro ?_ ?_) | exact rfl | (rw [e1]; exact rfl) | (rw [←e3]; exact rfl))
            · rw [List.getD, List.getElem?_eq_none (by omega)] at e1
              repeat' (first
                | (apply WL.gT; exact rfl; exact rfl; (focus (first | exact dec_true (by omega) | exact dec_false (by omega); done)))
                | (apply WL.gF; exact rfl; exact rfl; (focus (first | exact dec_true (by omega) | exact dec_false (by omega); done)))
                | (apply W.condKT; exact rfl; (focus (first | exact dec_true (by omega) | exact dec_false (by omega); done)))
                | (apply W.condKF; exact rfl; (focus (first | exact dec_true (by omega) | exact dec_false (by omega); done)))
                | (apply WL.lit tOk; exact rfl; exact rfl; exact rfl; exact rfl; exact rfl; exact rfl; (first | exact rfl | kernel_rfl | (simp [Instr.fill, catCells]; done)); exact rfl; intro gb w' hb hge hc hx)
                | (apply WL.append1 tOk encB_ok; exact rfl; exact rfl; exact rfl; exact rfl; exact rfl; exact rfl; exact rfl; exact rfl; exact rfl; exact rfl; assumption; (first | exact Ext.refl _ | assumption | exact Ext.trans (by assumption) (by assumption) | (focus (repeat (first | exact Ext.refl _ | assumption | (apply Ext.trans; rotate_left; assumption))); done) | solve_by_elim (maxDepth := 8) [Ext.trans]); (first | exact rfl | (simp; done) | (simp [*]; done) | omega); assumption; (first | exact rfl | exact (rfl : encB (_, _) = _)); exact rfl; (first | exact Ext.refl _ | assumption | exact Ext.trans (by assumption) (by assumption) | (focus (repeat (first | exact Ext.refl _ | assumption | (apply Ext.trans; rotate_left; assumption))); done) | solve_by_elim (maxDepth := 8) [Ext.trans]); (first | omega | (simp; omega) | (simp at *; omega)); intro a' cap' w' hO hX' hU hF)
                | (show WL _ _ _ _ _ _ _; first | apply WL.nil | (apply WL.pev tOk; exact rfl; exact rfl; exact rfl) | (apply WL.load tOk; exact rfl; exact rfl; exact rfl; exact rfl; exact rfl; (first | assumption | (focus (apply Ext.cell; rotate_left; assumption; (first | exact Ext.refl _ | assumption | exact Ext.trans (by assumption) (by assumption) | (focus (repeat (first | exact Ext.refl _ | assumption | (apply Ext.trans; rotate_left; assumption))); done) | solve_by_elim (maxDepth := 8) [Ext.trans]); done)))) | (apply WL.index tOk; exact rfl; exact rfl; exact rfl; exact rfl; exact rfl; exact rfl; exact rfl; exact rfl; assumption; (first | exact Ext.refl _ | assumption | exact Ext.trans (by assumption) (by assumption) | (focus (repeat (first | exact Ext.refl _ | assumption | (apply Ext.trans; rotate_left; assumption))); done) | solve_by_elim (maxDepth := 8) [Ext.trans]); exact rfl; omega; assumption; intro b off h; have hcc := h; first | (obtain ⟨h1, h2, _⟩ := h) | (obtain ⟨h1, _⟩ := h)) | (apply WL.add; exact rfl; exact rfl; exact rfl; exact rfl; omega) | (apply WL.sub; exact rfl; exact rfl; exact rfl; exact rfl; omega) | (apply WL.mul; exact rfl; exact rfl; exact rfl; exact rfl; omega) | (apply WL.quo; exact rfl; exact rfl; exact rfl; exact rfl; omega) | (apply WL.rem; exact rfl; exact rfl; exact rfl; exact rfl; omega) | (apply WL.loadA tOk; exact rfl; exact rfl; exact rfl; exact rfl; exact rfl; (first | assumption | (focus (apply Cells.ext; rotate_left; assumption; (first | exact Ext.refl _ | assumption | exact Ext.trans (by assumption) (by assumption) | (focus (repeat (first | exact Ext.refl _ | assumption | (apply Ext.trans; rotate_left; assumption))); done) | solve_by_elim (maxDepth := 8) [Ext.trans]); done))); exact rfl) | (apply WL.guardF; exact rfl; exact rfl) | (apply WL.gD; exact rfl; exact rfl; all_goals intro _) | (apply WL.gN; exact rfl; exact rfl; all_goals intro _) | (apply WL.gB; exact rfl; exact rfl; all_goals intro _))
                | (show Z _ _ _ _ _; first | apply Z.tail | apply Z.then_normal | apply Z.block_normal | apply Z.then_exit | apply Z.block_exit | apply Z.then_ret | apply Z.block_ret | (apply Z.block_other; exact rfl))
                | (show W _ _ _ _ _ _; first | apply W.seq | apply W.region | apply W.block | apply W.skip | apply W.ret | apply W.exit | (apply W.condT; exact rfl) | (apply W.condF; exact rfl) | (apply W.condD; exact rfl; all_goals intro _) | (apply W.condN; exact rfl; all_goals intro _) | (apply W.condB; exact rfl; all_goals intro _)))
              exact Z.againO a' cap' ⟨by omega, by assumption, by rw [e1]; exact hO⟩ (by repeat' first | exact trivial | (refine And.intro ?_ ?_) | exact rfl | (rw [e1]; exact rfl) | (rw [←e3]; exact rfl))
          · have e1 := fewTo_no (ins := ins) hxn (fun h => hy h.2)
            have hav : ¬ 0 ≤ atv (OfP n l) (k + 1) := by rw [atv, if_neg (by omega), if_neg hy]; omega
            repeat' (first
              | (apply WL.gT; exact rfl; exact rfl; (focus (first | exact dec_true (by omega) | exact dec_false (by omega); done)))
              | (apply WL.gF; exact rfl; exact rfl; (focus (first | exact dec_true (by omega) | exact dec_false (by omega); done)))
              | (apply W.condKT; exact rfl; (focus (first | exact dec_true (by omega) | exact dec_false (by omega); done)))
              | (apply W.condKF; exact rfl; (focus (first | exact dec_true (by omega) | exact dec_false (by omega); done)))
              | (show WL _ _ _ _ _ _ _; first | apply WL.nil | (apply WL.pev tOk; exact rfl; exact rfl; exact rfl) | (apply WL.load tOk; exact rfl; exact rfl; exact rfl; exact rfl; exact rfl; (first | assumption | (focus (apply Ext.cell; rotate_left; assumption; (first | exact Ext.refl _ | assumption | exact Ext.trans (by assumption) (by assumption) | (focus (repeat (first | exact Ext.refl _ | assumption | (apply Ext.trans; rotate_left; assumption))); done) | solve_by_elim (maxDepth := 8) [Ext.trans]); done)))) | (apply WL.index tOk; exact rfl; exact rfl; exact rfl; exact rfl; exact rfl; exact rfl; exact rfl; exact rfl; assumption; (first | exact Ext.refl _ | assumption | exact Ext.trans (by assumption) (by assumption) | (focus (repeat (first | exact Ext.refl _ | assumption | (apply Ext.trans; rotate_left; assumption))); done) | solve_by_elim (maxDepth := 8) [Ext.trans]); exact rfl; omega; assumption; intro b off h; have hcc := h; first | (obtain ⟨h1, h2, _⟩ := h) | (obtain ⟨h1, _⟩ := h)) | (apply WL.add; exact rfl; exact rfl; exact rfl; exact rfl; omega) | (apply WL.sub; exact rfl; exact rfl; exact rfl; exact rfl; omega) | (apply WL.mul; exact rfl; exact rfl; exact rfl; exact rfl; omega) | (apply WL.quo; exact rfl; exact rfl; exact rfl; exact rfl; omega) | (apply WL.rem; exact rfl; exact rfl; exact rfl; exact rfl; omega) | (apply WL.loadA tOk; exact rfl; exact rfl; exact rfl; exact rfl; exact rfl; (first | assumption | (focus (apply Cells.ext; rotate_left; assumption; (first | exact Ext.refl _ | assumption | exact Ext.trans (by assumption) (by assumption) | (focus (repeat (first | exact Ext.refl _ | assumption | (apply Ext.trans; rotate_left; assumption))); done) | solve_by_elim (maxDepth := 8) [Ext.trans]); done))); exact rfl) | (apply WL.guardF; exact rfl; exact rfl) | (apply WL.gD; exact rfl; exact rfl; all_goals intro _) | (apply WL.gN; exact rfl; exact rfl; all_goals intro _) | (apply WL.gB; exact rfl; exact rfl; all_goals intro _))
              | (show Z _ _ _ _ _; first | apply Z.tail | apply Z.then_normal | apply Z.block_normal | apply Z.then_exit | apply Z.block_exit | apply Z.then_ret | apply Z.block_ret | (apply Z.block_other; exact rfl))
              | (show W _ _ _ _ _ _; first | apply W.seq | apply W.region | apply W.block | apply W.skip | apply W.ret | apply W.exit | (apply W.condT; exact rfl) | (apply W.condF; exact rfl) | (apply W.condD; exact rfl; all_goals intro _) | (apply W.condN; exact rfl; all_goals intro _) | (apply W.condB; exact rfl; all_goals intro _)))
            exact Z.againO c' cp ⟨by omega, hx', by rw [e1]; exact hO'⟩ (by repeat' first | exact trivial | (refine And.intro ?_ ?_) | exact rfl | (rw [e1]; exact rfl) | (rw [←e3]; exact rfl))
        · have e1 := fewTo_no (P := OfP n l) (ins := ins) hxn (fun h => hin h.1)
          have e2 := cnt_gate hxn hin
          repeat' (first
            | (apply WL.gT; exact rfl; exact rfl; (focus (first | exact dec_true (by omega) | exact dec_false (by omega); done)))
            | (apply WL.gF; exact rfl; exact rfl; (focus (first | exact dec_true (by omega) | exact dec_false (by omega); done)))
            | (apply W.condKT; exact rfl; (focus (first | exact dec_true (by omega) | exact dec_false (by omega); done)))
            | (apply W.condKF; exact rfl; (focus (first | exact dec_true (by omega) | exact dec_false (by omega); done)))
            | (show WL _ _ _ _ _ _ _; first | apply WL.nil | (apply WL.pev tOk; exact rfl; exact rfl; exact rfl) | (apply WL.load tOk; exact rfl; exact rfl; exact rfl; exact rfl; exact rfl; (first | assumption | (focus (apply Ext.cell; rotate_left; assumption; (first | exact Ext.refl _ | assumption | exact Ext.trans (by assumption) (by assumption) | (focus (repeat (first | exact Ext.refl _ | assumption | (apply Ext.trans; rotate_left; assumption))); done) | solve_by_elim (maxDepth := 8) [Ext.trans]); done)))) | (apply WL.index tOk; exact rfl; exact rfl; exact rfl; exact rfl; exact rfl; exact rfl; exact rfl; exact rfl; assumption; (first | exact Ext.refl _ | assumption | exact Ext.trans (by assumption) (by assumption) | (focus (repeat (first | exact Ext.refl _ | assumption | (apply Ext.trans; rotate_left; assumption))); done) | solve_by_elim (maxDepth := 8) [Ext.trans]); exact rfl; omega; assumption; intro b off h; have hcc := h; first | (obtain ⟨h1, h2, _⟩ := h) | (obtain ⟨h1, _⟩ := h)) | (apply WL.add; exact rfl; exact rfl; exact rfl; exact rfl; omega) | (apply WL.sub; exact rfl; exact rfl; exact rfl; exact rfl; omega) | (apply WL.mul; exact rfl; exact rfl; exact rfl; exact rfl; omega) | (apply WL.quo; exact rfl; exact rfl; exact rfl; exact rfl; omega) | (apply WL.rem; exact rfl; exact rfl; exact rfl; exact rfl; omega) | (apply WL.loadA tOk; exact rfl; exact rfl; exact rfl; exact rfl; exact rfl; (first | assumption | (focus (apply Cells.ext; rotate_left; assumption; (first | exact Ext.refl _ | assumption | exact Ext.trans (by assumption) (by assumption) | (focus (repeat (first | exact Ext.refl _ | assumption | (apply Ext.trans; rotate_left; assumption))); done) | solve_by_elim (maxDepth := 8) [Ext.trans]); done))); exact rfl) | (apply WL.guardF; exact rfl; exact rfl) | (apply WL.gD; exact rfl; exact rfl; all_goals intro _) | (apply WL.gN; exact rfl; exact rfl; all_goals intro _) | (apply WL.gB; exact rfl; exact rfl; all_goals intro _))
            | (show Z _ _ _ _ _; first | apply Z.tail | apply Z.then_normal | apply Z.block_normal | apply Z.then_exit | apply Z.block_exit | apply Z.then_ret | apply Z.block_ret | (apply Z.block_other; exact rfl))
            | (show W _ _ _ _ _ _; first | apply W.seq | apply W.region | apply W.block | apply W.skip | apply W.ret | apply W.exit | (apply W.condT; exact rfl) | (apply W.condF; exact rfl) | (apply W.condD; exact rfl; all_goals intro _) | (apply W.condN; exact rfl; all_goals intro _) | (apply W.condB; exact rfl; all_goals intro _)))
          exact Z.againO c' cp ⟨by omega, hx', by rw [e1]; exact hO'⟩ (by repeat' first | exact trivial | (refine And.intro ?_ ?_) | exact rfl | (rw [e1]; exact rfl) | (rw [e2]; exact rfl))
      · obtain rfl : k = n.length := by omega
        have RF := Own.row encB_ok hO'
        have hvo := values_len' (outTo n (OfP n l) n.length) (fewTo n (OfP n l) ins n.length)
        repeat' (first
          | (apply WL.gT; exact rfl; exact rfl; (focus (exact dec_false (by omega); done)))
          | (apply WL.gF; exact rfl; exact rfl; (focus (exact dec_false (by omega); done)))
          | (apply W.condKT; exact rfl; (focus (exact dec_false (by omega); done)))
          | (apply W.condKF; exact rfl; (focus (exact dec_false (by omega); done)))
          | ((show WL _ _ _ (⟨_, .call ⟨.value (.func 32), _, _⟩, _, _, _, _⟩ :: _) _ _ _); apply WL.call; exact rfl; exact rfl; exact rfl; exact rfl; exact ref07_Values _ _ _ _ (outTo n (OfP n l) n.length) (fewTo n (OfP n l) ins n.length) _ (RM1.ext hx2w) RF hgo (by omega); rintro v' w' ⟨hx, a', cap', rfl, hO⟩)
          | (show WL _ _ _ _ _ _ _; first | apply WL.nil | (apply WL.pev tOk; exact rfl; exact rfl; exact rfl) | (apply WL.load tOk; exact rfl; exact rfl; exact rfl; exact rfl; exact rfl; (first | assumption | (focus (apply Ext.cell; rotate_left; assumption; (first | exact Ext.refl _ | assumption | exact Ext.trans (by assumption) (by assumption) | (focus (repeat (first | exact Ext.refl _ | assumption | (apply Ext.trans; rotate_left; assumption))); done) | solve_by_elim (maxDepth := 8) [Ext.trans]); done)))) | (apply WL.index tOk; exact rfl; exact rfl; exact rfl; exact rfl; exact rfl; exact rfl; exact rfl; exact rfl; assumption; (first | exact Ext.refl _ | assumption | exact Ext.trans (by assumption) (by assumption) | (focus (repeat (first | exact Ext.refl _ | assumption | (apply Ext.trans; rotate_left; assumption))); done) | solve_by_elim (maxDepth := 8) [Ext.trans]); exact rfl; omega; assumption; intro b off h; have hcc := h; first | (obtain ⟨h1, h2, _⟩ := h) | (obtain ⟨h1, _⟩ := h)) | (apply WL.add; exact rfl; exact rfl; exact rfl; exact rfl; omega) | (apply WL.sub; exact rfl; exact rfl; exact rfl; exact rfl; omega) | (apply WL.mul; exact rfl; exact rfl; exact rfl; exact rfl; omega) | (apply WL.quo; exact rfl; exact rfl; exact rfl; exact rfl; omega) | (apply WL.rem; exact rfl; exact rfl; exact rfl; exact rfl; omega) | (apply WL.loadA tOk; exact rfl; exact rfl; exact rfl; exact rfl; exact rfl; (first | assumption | (focus (apply Cells.ext; rotate_left; assumption; (first | exact Ext.refl _ | assumption | exact Ext.trans (by assumption) (by assumption) | (focus (repeat (first | exact Ext.refl _ | assumption | (apply Ext.trans; rotate_left; assumption))); done) | solve_by_elim (maxDepth := 8) [Ext.trans]); done))); exact rfl) | (apply WL.guardF; exact rfl; exact rfl) | (apply WL.gD; exact rfl; exact rfl; all_goals intro _) | (apply WL.gN; exact rfl; exact rfl; all_goals intro _) | (apply WL.gB; exact rfl; exact rfl; all_goals intro _))
          | (show Z _ _ _ _ _; first | apply Z.tail | apply Z.then_normal | apply Z.block_normal | apply Z.then_exit | apply Z.block_exit | apply Z.then_ret | apply Z.block_ret | (apply Z.block_other; exact rfl))
          | (show W _ _ _ _ _ _; first | apply W.seq | apply W.region | apply W.block | apply W.skip | apply W.ret | apply W.exit | (apply W.condT; exact rfl) | (apply W.condF; exact rfl) | (apply W.condD; exact rfl; all_goals intro _) | (apply W.condN; exact rfl; all_goals intro _) | (apply W.condB; exact rfl; all_goals intro _)))
        have RO := Own.row encB_ok hO
        have RV4 := RV.ext (hx'.trans hx)
        have RA4 := RA1.ext (hx2w.trans hx)
        have hx4 : Ext w w' := hxw.trans hx
        refine W.loop1 (n.length + 1) (fun k => k ≤ n.length + 1) (fun k => [(8, .slice a1 (atT n (OfP n l) (n.length + 1)).length ca1), (12, .slice va (values n ins).length cva), (16, .slice a' (values (outTo n (OfP n l) n.length) (fewTo n (OfP n l) ins n.length)).length cap'), (17, .int .i64 k)]) (by omega) (fun k h => h) ⟨rfl, rfl, rfl, rfl, trivial⟩ ?_
        rintro k hk
        by_cases hlt : k < n.length + 1
        · have hat := atT_get (n := n) (P := OfP n l) (k := n.length + 1) (u := k) (by omega) (by omega)
          obtain ⟨z, hz⟩ := getI (values n ins) (show k < _ by omega)
          by_cases hav : 0 ≤ atv (OfP n l) k
          · have hofk := hof (v := k) (by omega) hav
            rw [getD_of hz] at hofk
            have hbd : atv (OfP n l) k / 2 < (values (outTo n (OfP n l) n.length) (fewTo n (OfP n l) ins n.length)).length ∧ atv (OfP n l) k ≤ 9223372036854775807 := by
              have hm := rnk_mono (P := OfP n l) (show k ≤ n.length by omega)
              unfold atv at hav ⊢
              split
              · omega
              · split <;> omega
            have hrk := rnk_le (OfP n l) k
            repeat' (first
              | (apply WL.gT; exact rfl; exact rfl; (focus (first | exact dec_true (by omega) | exact dec_false (fun h => h hofk); done)))
              | (apply WL.gF; exact rfl; exact rfl; (focus (first | exact dec_true (by omega) | exact dec_false (fun h => h hofk); done)))
              | (apply QL.gT; exact rfl; exact rfl; (focus (first | exact dec_true (by omega) | exact dec_false (fun h => h hofk); done)))
              | (apply QL.gF; exact rfl; exact rfl; (focus (first | exact dec_true (by omega) | exact dec_false (fun h => h hofk); done)))
              | (apply W.condKT; exact rfl; (focus (first | exact dec_true (by omega) | exact dec_false (fun h => h hofk); done)))
              | (apply W.condKF; exact rfl; (focus (first | exact dec_true (by omega) | exact dec_false (fun h => h hofk); done)))
              | ((show WL _ _ _ (⟨_, .call ⟨.value (.func 50), _, _⟩, _, _, _, _⟩ :: _) _ _ _); apply WL.callS; exact rfl; exact rfl; exact rfl; exact rfl; exact ref07_Of _ _ (values (outTo n (OfP n l) n.length) (fewTo n (OfP n l) ins n.length)) (atv (OfP n l) k) _ RO ⟨hav, hbd.1, hbd.2⟩)
              | ((show QL _ _ _ _ (⟨_, .call ⟨.value (.func 50), _, _⟩, _, _, _, _⟩ :: _) _ _); apply QL.callS; exact rfl; exact rfl; exact rfl; exact rfl; exact ref07_Of _ _ (values (outTo n (OfP n l) n.length) (fewTo n (OfP n l) ins n.length)) (atv (OfP n l) k) _ RO ⟨hav, hbd.1, hbd.2⟩)
              | (show WL _ _ _ _ _ _ _; first | apply WL.nil | (apply WL.pev tOk; exact rfl; exact rfl; exact rfl) | (apply WL.load tOk; exact rfl; exact rfl; exact rfl; exact rfl; exact rfl; (first | assumption | (focus (apply Ext.cell; rotate_left; assumption; (first | exact Ext.refl _ | assumption | exact Ext.trans (by assumption) (by assumption) | (focus (repeat (first | exact Ext.refl _ | assumption | (apply Ext.trans; rotate_left; assumption))); done) | solve_by_elim (maxDepth := 8) [Ext.trans]); done)))) | (apply WL.index tOk; exact rfl; exact rfl; exact rfl; exact rfl; exact rfl; exact rfl; exact rfl; exact rfl; assumption; (first | exact Ext.refl _ | assumption | exact Ext.trans (by assumption) (by assumption) | (focus (repeat (first | exact Ext.refl _ | assumption | (apply Ext.trans; rotate_left; assumption))); done) | solve_by_elim (maxDepth := 8) [Ext.trans]); exact rfl; omega; assumption; intro b off h; have hcc := h; first | (obtain ⟨h1, h2, _⟩ := h) | (obtain ⟨h1, _⟩ := h)) | (apply WL.add; exact rfl; exact rfl; exact rfl; exact rfl; omega) | (apply WL.sub; exact rfl; exact rfl; exact rfl; exact rfl; omega) | (apply WL.mul; exact rfl; exact rfl; exact rfl; exact rfl; omega) | (apply WL.quo; exact rfl; exact rfl; exact rfl; exact rfl; omega) | (apply WL.rem; exact rfl; exact rfl; exact rfl; exact rfl; omega) | (apply WL.loadA tOk; exact rfl; exact rfl; exact rfl; exact rfl; exact rfl; (first | assumption | (focus (apply Cells.ext; rotate_left; assumption; (first | exact Ext.refl _ | assumption | exact Ext.trans (by assumption) (by assumption) | (focus (repeat (first | exact Ext.refl _ | assumption | (apply Ext.trans; rotate_left; assumption))); done) | solve_by_elim (maxDepth := 8) [Ext.trans]); done))); exact rfl) | (apply WL.guardF; exact rfl; exact rfl) | (apply WL.gD; exact rfl; exact rfl; all_goals intro _) | (apply WL.gN; exact rfl; exact rfl; all_goals intro _) | (apply WL.gB; exact rfl; exact rfl; all_goals intro _))
              | (show QL _ _ _ _ _ _ _; first | apply QL.nil | (apply QL.pev tOk; exact rfl; exact rfl; exact rfl) | (apply QL.load tOk; exact rfl; exact rfl; exact rfl; exact rfl; exact rfl; (first | assumption | (focus (apply Ext.cell; rotate_left; assumption; (first | exact Ext.refl _ | assumption | exact Ext.trans (by assumption) (by assumption) | (focus (repeat (first | exact Ext.refl _ | assumption | (apply Ext.trans; rotate_left; assumption))); done) | solve_by_elim (maxDepth := 8) [Ext.trans]); done)))) | (apply QL.index tOk; exact rfl; exact rfl; exact rfl; exact rfl; exact rfl; exact rfl; exact rfl; exact rfl; assumption; (first | exact Ext.refl _ | assumption | exact Ext.trans (by assumption) (by assumption) | (focus (repeat (first | exact Ext.refl _ | assumption | (apply Ext.trans; rotate_left; assumption))); done) | solve_by_elim (maxDepth := 8) [Ext.trans]); exact rfl; omega; assumption; intro b off h; have hcc := h; first | (obtain ⟨h1, h2, _⟩ := h) | (obtain ⟨h1, _⟩ := h)) | (apply QL.add; exact rfl; exact rfl; exact rfl; exact rfl; omega) | (apply QL.sub; exact rfl; exact rfl; exact rfl; exact rfl; omega) | (apply QL.mul; exact rfl; exact rfl; exact rfl; exact rfl; omega) | (apply QL.quo; exact rfl; exact rfl; exact rfl; exact rfl; omega) | (apply QL.rem; exact rfl; exact rfl; exact rfl; exact rfl; omega) | (apply QL.loadA tOk; exact rfl; exact rfl; exact rfl; exact rfl; exact rfl; (first | assumption | (focus (apply Cells.ext; rotate_left; assumption; (first | exact Ext.refl _ | assumption | exact Ext.trans (by assumption) (by assumption) | (focus (repeat (first | exact Ext.refl _ | assumption | (apply Ext.trans; rotate_left; assumption))); done) | solve_by_elim (maxDepth := 8) [Ext.trans]); done))); exact rfl) | (apply QL.guardF; exact rfl; exact rfl) | (apply QL.gD; exact rfl; exact rfl; all_goals intro _) | (apply QL.gN; exact rfl; exact rfl; all_goals intro _) | (apply QL.gB; exact rfl; exact rfl; all_goals intro _))
              | (show Z _ _ _ _ _; first | apply Z.tail | apply Z.then_normal | apply Z.block_normal | apply Z.then_exit | apply Z.block_exit | apply Z.then_ret | apply Z.block_ret | (apply Z.block_other; exact rfl))
              | (show W _ _ _ _ _ _; first | apply W.seq | apply W.region | apply W.block | apply W.skip | apply W.ret | apply W.exit | (apply W.condT; exact rfl) | (apply W.condF; exact rfl) | (apply W.condD; exact rfl; all_goals intro _) | (apply W.condN; exact rfl; all_goals intro _) | (apply W.condB; exact rfl; all_goals intro _) | (apply W.regionD tMix; kernel_rfl)))
            exact Z.again1 (by omega) ⟨rfl, rfl, rfl, rfl, trivial⟩
          · repeat' (first
              | (apply WL.gT; exact rfl; exact rfl; (focus (first | exact dec_true (by omega) | exact dec_false (by omega); done)))
              | (apply WL.gF; exact rfl; exact rfl; (focus (first | exact dec_true (by omega) | exact dec_false (by omega); done)))
              | (apply QL.gT; exact rfl; exact rfl; (focus (first | exact dec_true (by omega) | exact dec_false (by omega); done)))
              | (apply QL.gF; exact rfl; exact rfl; (focus (first | exact dec_true (by omega) | exact dec_false (by omega); done)))
              | (apply W.condKT; exact rfl; (focus (first | exact dec_true (by omega) | exact dec_false (by omega); done)))
              | (apply W.condKF; exact rfl; (focus (first | exact dec_true (by omega) | exact dec_false (by omega); done)))
              | (show WL _ _ _ _ _ _ _; first | apply WL.nil | (apply WL.pev tOk; exact rfl; exact rfl; exact rfl) | (apply WL.load tOk; exact rfl; exact rfl; exact rfl; exact rfl; exact rfl; (first | assumption | (focus (apply Ext.cell; rotate_left; assumption; (first | exact Ext.refl _ | assumption | exact Ext.trans (by assumption) (by assumption) | (focus (repeat (first | exact Ext.refl _ | assumption | (apply Ext.trans; rotate_left; assumption))); done) | solve_by_elim (maxDepth := 8) [Ext.trans]); done)))) | (apply WL.index tOk; exact rfl; exact rfl; exact rfl; exact rfl; exact rfl; exact rfl; exact rfl; exact rfl; assumption; (first | exact Ext.refl _ | assumption | exact Ext.trans (by assumption) (by assumption) | (focus (repeat (first | exact Ext.refl _ | assumption | (apply Ext.trans; rotate_left; assumption))); done) | solve_by_elim (maxDepth := 8) [Ext.trans]); exact rfl; omega; assumption; intro b off h; have hcc := h; first | (obtain ⟨h1, h2, _⟩ := h) | (obtain ⟨h1, _⟩ := h)) | (apply WL.add; exact rfl; exact rfl; exact rfl; exact rfl; omega) | (apply WL.sub; exact rfl; exact rfl; exact rfl; exact rfl; omega) | (apply WL.mul; exact rfl; exact rfl; exact rfl; exact rfl; omega) | (apply WL.quo; exact rfl; exact rfl; exact rfl; exact rfl; omega) | (apply WL.rem; exact rfl; exact rfl; exact rfl; exact rfl; omega) | (apply WL.loadA tOk; exact rfl; exact rfl; exact rfl; exact rfl; exact rfl; (first | assumption | (focus (apply Cells.ext; rotate_left; assumption; (first | exact Ext.refl _ | assumption | exact Ext.trans (by assumption) (by assumption) | (focus (repeat (first | exact Ext.refl _ | assumption | (apply Ext.trans; rotate_left; assumption))); done) | solve_by_elim (maxDepth := 8) [Ext.trans]); done))); exact rfl) | (apply WL.guardF; exact rfl; exact rfl) | (apply WL.gD; exact rfl; exact rfl; all_goals intro _) | (apply WL.gN; exact rfl; exact rfl; all_goals intro _) | (apply WL.gB; exact rfl; exact rfl; all_goals intro _))
              | (show QL _ _ _ _ _ _ _; first | apply QL.nil | (apply QL.pev tOk; exact rfl; exact rfl; exact rfl) | (apply QL.load tOk; exact rfl; exact rfl; exact rfl; exact rfl; exact rfl; (first | assumption | (focus (apply Ext.cell; rotate_left; assumption; (first | exact Ext.refl _ | assumption | exact Ext.trans (by assumption) (by assumption) | (focus (repeat (first | exact Ext.refl _ | assumption | (apply Ext.trans; rotate_left; assumption))); done) | solve_by_elim (maxDepth := 8) [Ext.trans]); done)))) | (apply QL.index tOk; exact rfl; exact rfl; exact rfl; exact rfl; exact rfl; exact rfl; exact rfl; exact rfl; assumption; (first | exact Ext.refl _ | assumption | exact Ext.trans (by assumption) (by assumption) | (focus (repeat (first | exact Ext.refl _ | assumption | (apply Ext.trans; rotate_left; assumption))); done) | solve_by_elim (maxDepth := 8) [Ext.trans]); exact rfl; omega; assumption; intro b off h; have hcc := h; first | (obtain ⟨h1, h2, _⟩ := h) | (obtain ⟨h1, _⟩ := h)) | (apply QL.add; exact rfl; exact rfl; exact rfl; exact rfl; omega) | (apply QL.sub; exact rfl; exact rfl; exact rfl; exact rfl; omega) | (apply QL.mul; exact rfl; exact rfl; exact rfl; exact rfl; omega) | (apply QL.quo; exact rfl; exact rfl; exact rfl; exact rfl; omega) | (apply QL.rem; exact rfl; exact rfl; exact rfl; exact rfl; omega) | (apply QL.loadA tOk; exact rfl; exact rfl; exact rfl; exact rfl; exact rfl; (first | assumption | (focus (apply Cells.ext; rotate_left; assumption; (first | exact Ext.refl _ | assumption | exact Ext.trans (by assumption) (by assumption) | (focus (repeat (first | exact Ext.refl _ | assumption | (apply Ext.trans; rotate_left; assumption))); done) | solve_by_elim (maxDepth := 8) [Ext.trans]); done))); exact rfl) | (apply QL.guardF; exact rfl; exact rfl) | (apply QL.gD; exact rfl; exact rfl; all_goals intro _) | (apply QL.gN; exact rfl; exact rfl; all_goals intro _) | (apply QL.gB; exact rfl; exact rfl; all_goals intro _))
              | (show Z _ _ _ _ _; first | apply Z.tail | apply Z.then_normal | apply Z.block_normal | apply Z.then_exit | apply Z.block_exit | apply Z.then_ret | apply Z.block_ret | (apply Z.block_other; exact rfl))
              | (show W _ _ _ _ _ _; first | apply W.seq | apply W.region | apply W.block | apply W.skip | apply W.ret | apply W.exit | (apply W.condT; exact rfl) | (apply W.condF; exact rfl) | (apply W.condD; exact rfl; all_goals intro _) | (apply W.condN; exact rfl; all_goals intro _) | (apply W.condB; exact rfl; all_goals intro _) | (apply W.regionD tMix; kernel_rfl)))
            exact Z.again1 (by omega) ⟨rfl, rfl, rfl, rfl, trivial⟩
        · repeat' (first
            | (apply WL.gT; exact rfl; exact rfl; (focus (exact dec_false (by omega); done)))
            | (apply WL.gF; exact rfl; exact rfl; (focus (exact dec_false (by omega); done)))
            | (apply W.condKT; exact rfl; (focus (exact dec_false (by omega); done)))
            | (apply W.condKF; exact rfl; (focus (exact dec_false (by omega); done)))
            | ((show WL _ _ _ (⟨_, .call ⟨.value (.func 47), _, _⟩, _, _, _, _⟩ :: _) _ _ _); apply WL.callP; exact rfl; exact rfl; exact rfl; exact rfl; exact lives8 _; intro w' hx)
            | (show WL _ _ _ _ _ _ _; first | apply WL.nil | (apply WL.pev tOk; exact rfl; exact rfl; exact rfl) | (apply WL.load tOk; exact rfl; exact rfl; exact rfl; exact rfl; exact rfl; (first | assumption | (focus (apply Ext.cell; rotate_left; assumption; (first | exact Ext.refl _ | assumption | exact Ext.trans (by assumption) (by assumption) | (focus (repeat (first | exact Ext.refl _ | assumption | (apply Ext.trans; rotate_left; assumption))); done) | solve_by_elim (maxDepth := 8) [Ext.trans]); done)))) | (apply WL.index tOk; exact rfl; exact rfl; exact rfl; exact rfl; exact rfl; exact rfl; exact rfl; exact rfl; assumption; (first | exact Ext.refl _ | assumption | exact Ext.trans (by assumption) (by assumption) | (focus (repeat (first | exact Ext.refl _ | assumption | (apply Ext.trans; rotate_left; assumption))); done) | solve_by_elim (maxDepth := 8) [Ext.trans]); exact rfl; omega; assumption; intro b off h; have hcc := h; first | (obtain ⟨h1, h2, _⟩ := h) | (obtain ⟨h1, _⟩ := h)) | (apply WL.add; exact rfl; exact rfl; exact rfl; exact rfl; omega) | (apply WL.sub; exact rfl; exact rfl; exact rfl; exact rfl; omega) | (apply WL.mul; exact rfl; exact rfl; exact rfl; exact rfl; omega) | (apply WL.quo; exact rfl; exact rfl; exact rfl; exact rfl; omega) | (apply WL.rem; exact rfl; exact rfl; exact rfl; exact rfl; omega) | (apply WL.loadA tOk; exact rfl; exact rfl; exact rfl; exact rfl; exact rfl; (first | assumption | (focus (apply Cells.ext; rotate_left; assumption; (first | exact Ext.refl _ | assumption | exact Ext.trans (by assumption) (by assumption) | (focus (repeat (first | exact Ext.refl _ | assumption | (apply Ext.trans; rotate_left; assumption))); done) | solve_by_elim (maxDepth := 8) [Ext.trans]); done))); exact rfl) | (apply WL.guardF; exact rfl; exact rfl) | (apply WL.gD; exact rfl; exact rfl; all_goals intro _) | (apply WL.gN; exact rfl; exact rfl; all_goals intro _) | (apply WL.gB; exact rfl; exact rfl; all_goals intro _))
            | (show Z _ _ _ _ _; first | apply Z.tail | apply Z.then_normal | apply Z.block_normal | apply Z.then_exit | apply Z.block_exit | apply Z.then_ret | apply Z.block_ret | (apply Z.block_other; exact rfl))
            | (show W _ _ _ _ _ _; first | apply W.seq | apply W.region | apply W.block | apply W.skip | apply W.ret | apply W.exit | (apply W.condT; exact rfl) | (apply W.condF; exact rfl) | (apply W.condD; exact rfl; all_goals intro _) | (apply W.condN; exact rfl; all_goals intro _) | (apply W.condB; exact rfl; all_goals intro _)))
          exact Z.body1 Try.results13 rfl fun m => ⟨rfl, Ext.at (by (first | exact Ext.refl _ | assumption | exact Ext.trans (by assumption) (by assumption) | (focus (repeat (first | exact Ext.refl _ | assumption | (apply Ext.trans; rotate_left; assumption))); done) | solve_by_elim (maxDepth := 8) [Ext.trans])) m⟩
  · refine Spec.of _ Try.func13 rfl Try.ntmps13 (by kernel_rfl) rfl ?_
    repeat' (first
      | ((show WL _ _ _ (⟨_, .call ⟨.value (.func 28), _, _⟩, _, _, _, _⟩ :: _) _ _ _); apply WL.callS; exact rfl; exact rfl; exact rfl; exact rfl; exact law07_Small _ _ _ _ _ R (by omega))
      | ((show WL _ _ _ (⟨_, .call ⟨.value (.func 47), _, _⟩, _, _, _, _⟩ :: _) _ _ _); apply WL.callP; exact rfl; exact rfl; exact rfl; exact rfl; exact lives8 _; intro w' hx)
      | (show WL _ _ _ _ _ _ _; first | apply WL.nil | (apply WL.pev tOk; exact rfl; exact rfl; exact rfl) | (apply WL.load tOk; exact rfl; exact rfl; exact rfl; exact rfl; exact rfl; (first | assumption | (focus (apply Ext.cell; rotate_left; assumption; (first | exact Ext.refl _ | assumption | exact Ext.trans (by assumption) (by assumption) | (focus (repeat (first | exact Ext.refl _ | assumption | (apply Ext.trans; rotate_left; assumption))); done) | solve_by_elim (maxDepth := 8) [Ext.trans]); done)))) | (apply WL.index tOk; exact rfl; exact rfl; exact rfl; exact rfl; exact rfl; exact rfl; exact rfl; exact rfl; assumption; (first | exact Ext.refl _ | assumption | exact Ext.trans (by assumption) (by assumption) | (focus (repeat (first | exact Ext.refl _ | assumption | (apply Ext.trans; rotate_left; assumption))); done) | solve_by_elim (maxDepth := 8) [Ext.trans]); exact rfl; omega; assumption; intro b off h; have hcc := h; first | (obtain ⟨h1, h2, _⟩ := h) | (obtain ⟨h1, _⟩ := h)) | (apply WL.add; exact rfl; exact rfl; exact rfl; exact rfl; omega) | (apply WL.sub; exact rfl; exact rfl; exact rfl; exact rfl; omega) | (apply WL.mul; exact rfl; exact rfl; exact rfl; exact rfl; omega) | (apply WL.quo; exact rfl; exact rfl; exact rfl; exact rfl; omega) | (apply WL.rem; exact rfl; exact rfl; exact rfl; exact rfl; omega) | (apply WL.loadA tOk; exact rfl; exact rfl; exact rfl; exact rfl; exact rfl; (first | assumption | (focus (apply Cells.ext; rotate_left; assumption; (first | exact Ext.refl _ | assumption | exact Ext.trans (by assumption) (by assumption) | (focus (repeat (first | exact Ext.refl _ | assumption | (apply Ext.trans; rotate_left; assumption))); done) | solve_by_elim (maxDepth := 8) [Ext.trans]); done))); exact rfl) | (apply WL.guardF; exact rfl; exact rfl) | (apply WL.gD; exact rfl; exact rfl; all_goals intro _) | (apply WL.gN; exact rfl; exact rfl; all_goals intro _) | (apply WL.gB; exact rfl; exact rfl; all_goals intro _))
      | (show Z _ _ _ _ _; first | apply Z.tail | apply Z.then_normal | apply Z.block_normal | apply Z.then_exit | apply Z.block_exit | apply Z.then_ret | apply Z.block_ret | (apply Z.block_other; exact rfl))
      | (show W _ _ _ _ _ _; first | apply W.seq | apply W.region | apply W.block | apply W.skip | apply W.ret | apply W.exit | (apply W.condT; exact rfl) | (apply W.condF; exact rfl) | (apply W.condD; exact rfl; all_goals intro _) | (apply W.condN; exact rfl; all_goals intro _) | (apply W.condB; exact rfl; all_goals intro _)))
    all_goals first
      | (exfalso; apply hsm; refine ⟨⟨?_, ?_⟩, ?_⟩ <;> first | omega | exact (And.right (by assumption)); done)
      | exact Z.body1 Try.results13 rfl fun m => ⟨rfl, Ext.at (by assumption) m⟩
      | skip
end Go.Proofs.Ytlmeofmhklpfdaa
