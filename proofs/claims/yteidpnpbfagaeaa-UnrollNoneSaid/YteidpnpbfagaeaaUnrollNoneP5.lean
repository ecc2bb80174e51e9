/- UnrollNone: nil frames tell nothing. No conditions. -/
import Derived.Test.YteidpnpbfagaeaaRows
import Derived.Lib.SmallJoins
import Derived.KernelRfl
import Derived.WalkKit
import Derived.ProofKit
import Derived.Deep.Quiet
import Derived.Deep.LoopGhost
import Derived.StillTail
import Derived.Test.YteidpnpbfagaeaaProg
import Derived.OpenShut
import Derived.ShutString
import Derived.ChangeOld
import Derived.Deep.Slices
import Derived.SizedLaws
import Derived.Laws.StructEq
import Derived.Laws.Externs
import Derived.MapKept
import Derived.Test.YteidpnpbfagaeaaUnrollNoneP4
namespace Go.Proofs.Yteidpnpbfagaeaa
open Go Go.Lt Go.RowKit
set_option linter.unusedVariables false
set_option linter.unusedSimpArgs false
set_option maxRecDepth 20000

abbrev encRB : RowV Bool → List Value := encRow
/-- A run by value: its rows, with where they lie. -/
structure RunV where
  st : RowV Bool
  ins : RowV (RowV Bool)
abbrev RunV.val (r : RunV) : Value := .agg #[rowVal r.st, rowVal r.ins]
abbrev RunV.s (r : RunV) : List Bool := r.st.2.2
abbrev RunV.i (r : RunV) : List (List Bool) := r.ins.2.2.map (·.2.2)
structure RAt (w : World) (r : RunV) : Prop where
  st : Row 1 encB w r.st.1 r.st.2.2
  ins : Row 1 encRB w r.ins.1 r.ins.2.2
  each : ∀ x ∈ r.ins.2.2, Row 1 encB w x.1 x.2.2
theorem RAt.ext {w w' : World} {r : RunV} (h : RAt w r) (hx : Ext w w') : RAt w' r := ⟨h.st.ext hx, h.ins.ext hx, fun x h1 => (h.each x h1).ext hx⟩
end Go.Proofs.Yteidpnpbfagaeaa
namespace Go.Proofs.Yteidpnpbfagaeaa
open Go Go.Lt Go.RowKit
set_option linter.unusedVariables false
set_option linter.unusedSimpArgs false
set_option maxRecDepth 20000

/-- The example. -/
abbrev exU : CirT := ⟨1, [], [(2, 3, 0)], [], [], [], [], [], ⟨#[]⟩⟩
theorem exU_good : GoodC' exU := by
  refine ⟨by decide, fun x hx => ?_, fun x hx => ?_, fun x hx => ?_, ?_, fun x hx h => ?_, ?_⟩
  · have : x = 2 := by simpa using hx
    subst this; decide
  · have : x = 3 := by simpa using hx
    subst this; decide
  · have : x = (2, 3, 0) := by simpa using hx
    subst this; exact .inl rfl
  · simp
  · have : x = 3 := by simpa using hx
    subst this; simp
  · show (ordL []).length = 0
    rw [ordL_nil]; rfl
theorem exU_net : cNet exU = ([(-1, 0)], [0, 2]) := by
  unfold cNet
  rw [show exU.gates = [] from rfl, ordL_nil]
  rfl
theorem exU_cp (a : Int) (h : a = 0 ∨ a = 1) (I O S : List (List Int)) : cpU exU ⟨[], I, O, S ++ [[a]]⟩ = ([0, a], []) := by
  have hl : UnV.last ⟨[], I, O, S ++ [[a]]⟩ = [a] := by
    unfold UnV.last
    dsimp only
    rw [show (S ++ [[a]]).length - 1 = S.length by simp]
    simp [List.getD]
  unfold cpU
  rw [hl, exU_net]
  show copyV [] [(-1, 0)] [a] = _
  rw [copyV_yes (fun z hz => by rw [List.mem_singleton.1 hz]; unfold hasL; rcases h with rfl | rfl <;> exact ⟨by decide, by decide⟩)]
  rfl
theorem exU_next0 : nextU exU [0, 0] = [1] := by unfold nextU uLit; rw [exU_net]; rfl
theorem exU_next1 : nextU exU [0, 1] = [0] := by unfold nextU uLit; rw [exU_net]; rfl
theorem exU_new : newU exU false = ⟨[], [], [], [[0]]⟩ := by
  have e : firstTo exU false 1 = ([0], []) := by
    show fstep false ([], []) (2, 3, 0) = _
    rw [fstep_no (by simp)]; rfl
  unfold newU
  rw [show exU.lat.length = 1 from rfl, e]
theorem exU_1 : growU exU (newU exU false) = ⟨[], [[]], [[0, 0]], [[0], [1]]⟩ := by
  unfold growU
  rw [exU_new, show (⟨[], [], [], [[0]]⟩ : UnV) = ⟨[], [], [], [] ++ [[0]]⟩ from rfl, exU_cp 0 (.inl rfl), exU_next0]; rfl
theorem exU_2 : growU exU (growU exU (newU exU false)) = ⟨[], [[], []], [[0, 0], [0, 1]], [[0], [1], [0]]⟩ := by
  rw [exU_1]
  unfold growU
  rw [show (⟨[], [[]], [[0, 0]], [[0], [1]]⟩ : UnV) = ⟨[], [[]], [[0, 0]], [[0]] ++ [[1]]⟩ from rfl, exU_cp 1 (.inr rfl), exU_next1]; rfl
set_option maxRecDepth 20000 in
set_option maxHeartbeats 16000000 in
theorem law19_lives (w : World) : Pure Try.prog 32 [] w (.bool true) := by
  refine Spec.of _ Try.func32 rfl Try.ntmps32 (by kernel_rfl) rfl ?_
  repeat' (first
    | ((show WL _ _ _ (⟨_, .build 27 _, _, _, _, _⟩ :: _) _ _ _; apply WL.build (cs := [.int .i64 1, .slice none 0 0, .slice (some ⟨g1, 0, none⟩) 1 1, .slice none 0 0, .slice none 0 0, .slice none 0 0, .slice none 0 0, .slice none 0 0, .string ⟨#[]⟩]) tOk; (iterate 6 exact rfl); (first | kernel_rfl | exact rfl); kernel_rfl))
    | (apply WL.build tOk; (iterate 7 exact rfl); kernel_rfl)
    | (apply WL.lit tOk; (iterate 6 exact rfl); (first | exact rfl | kernel_rfl | (simp [Instr.fill, catCells]; done)); exact rfl; intro gb w' hb hge hc hx; have hO := Own.of_block ([((2, 3, 0) : T3)]) enc3_ok hb hge rfl; (obtain ⟨g1, rfl⟩ : ∃ x, x = gb := ⟨_, rfl⟩; obtain ⟨w1, rfl⟩ : ∃ x, x = w' := ⟨_, rfl⟩; obtain ⟨hx1, rfl⟩ : ∃ x, x = hx := ⟨_, rfl⟩; obtain ⟨hO1, rfl⟩ : ∃ x, x = hO := ⟨_, rfl⟩))
    | (show WL _ _ _ _ _ _ _; first | apply WL.nil | (refine WL.au (k := ?_)))
    | (show Z _ _ _ _ _; apply Z.then_normal)
    | (show W _ _ _ _ _ _; first | apply W.seq | apply W.region)
    | fail)
  obtain ⟨c, hc⟩ : ∃ c : Circ, c = ⟨1, (none, 0, []), (some ⟨g1, 0, none⟩, 1, [(2, 3, 0)]), (none, 0, []), (none, 0, []), (none, 0, []), (none, 0, []), (none, 0, []), ⟨#[]⟩⟩ := ⟨_, rfl⟩
  have hct : c.t = exU := by rw [hc]
  have nilK : ∀ {α : Type} (s : Nat) (enc : α → List Value), RowK s enc w1 ((none, 0, []) : RowV α) := fun s enc => ⟨Row.nil _ _ _ _, Nat.le_refl _, fun _ => rfl⟩
  have hC : CAt w1 c := by
    rw [hc]
    exact ⟨nilK _ _, ⟨hO1.row enc3_ok, Nat.le_refl _, fun h => by cases h⟩, nilK _ _, nilK _ _, nilK _ _, nilK _ _, nilK _ _⟩
  have hg : GoodC' c.t := by rw [hct]; exact exU_good
  have hz : SzC c.t 100000 := by rw [hct]; unfold SzC; simp
  have hz2 : c.t.syms.length ≤ 100000 := by rw [hct]; simp
  have hnew := un_New c false w1 hC hg hz hz2
  have hv : c.val = .agg #[.int .i64 1, .slice none 0 0, .slice (some ⟨g1, 0, none⟩) 1 1, .slice none 0 0, .slice none 0 0, .slice none 0 0, .slice none 0 0, .slice none 0 0, .string ⟨#[]⟩] := by rw [hc]; rfl
  rw [hv, hct] at hnew
  have hO0 := (newU_ok exU_good false).1
  have hO1k := (growU_ok exU_good hO0).1
  have hN0 : (newU exU false).N.length ≤ 600000 := by rw [exU_new]; exact Nat.zero_le _
  have hF0 : (newU exU false).own.length ≤ 100000 := by rw [exU_new]; exact Nat.zero_le _
  have hN1 : (growU exU (newU exU false)).N.length ≤ 600000 := by rw [exU_1]; exact Nat.zero_le _
  have hF1 : (growU exU (newU exU false)).own.length ≤ 100000 := by rw [exU_1]; decide
  have hs1 : UnV.state ⟨[], [[], []], [[0, 0], [0, 1]], [[0], [1], [0]]⟩ 1 0 = 1 := by decide
  have hs2 : UnV.state ⟨[], [[], []], [[0, 0], [0, 1]], [[0], [1], [0]]⟩ 2 0 = 0 := by decide
  repeat' (first
    | (apply WL.neNilS tOk; (iterate 6 exact rfl))
    | (apply WL.gT; exact rfl; exact rfl; (focus (first | with_reducible exact dec_true rfl | exact dec_true (fun h => by cases h); done)))
    | (((show WL _ _ _ (⟨_, .call ⟨.value (.func 33), _, _⟩, _, _, _, _⟩ :: _) _ _ _); apply WL.call; (iterate 4 exact rfl); exact hnew; rintro v' w4 ⟨w0, m, x, hX0, rfl, hdt, hU⟩; have hgm : GoodC' m.d.t := (by rw [hdt]; exact exU_good); have hzm : SzC m.d.t 100000 := (by rw [hdt]; unfold SzC; simp); have hw4 : Ext w1 w4 := hX0.trans hU.ext))
    | (((show WL _ _ _ (⟨_, .call ⟨.value (.func 34), _, _⟩, _, _, _, _⟩ :: _) _ _ _); apply WL.call; (iterate 4 exact rfl); (first | (have h_0 := hU1; clear h_0; exact un_Grow hU1 hgm hzm (by rw [hdt]; exact hO1k) hN1 hF1) | exact un_Grow hU hgm hzm (by rw [hdt]; exact hO0) hN0 hF0); (first | (have h_0 := hU1; clear h_0; rintro v' w6 ⟨rfl, x2, hU2⟩; rw [hdt, exU_2] at hU2; have hst1 := un_State hU2 1 0; have hst2 := un_State hU2 2 0; rw [hs1] at hst1; rw [hs2] at hst2) | (rintro v' w5 ⟨rfl, x1, hU1⟩; rw [hdt] at hU1))))
    | (((show WL _ _ _ (⟨_, .call ⟨.value (.func 41), _, _⟩, _, _, _, _⟩ :: _) _ _ _); apply WL.callS; (iterate 4 exact rfl); first | exact hst1 | exact hst2))
    | (((show WL _ _ _ (⟨_, .call ⟨.value (.func 36), _, _⟩, _, _, _, _⟩ :: _) _ _ _); apply WL.call; (iterate 4 exact rfl); exact un_Net hU2 (Nat.zero_le _); rintro v' w7 ⟨hx7, aN, cN, rfl, _⟩))
    | (show WL _ _ _ _ _ _ _; first | apply WL.nil | (refine WL.au (k := ?_)))
    | (show Z _ _ _ _ _; apply Z.then_normal)
    | (show W _ _ _ _ _ _; first | apply W.seq | apply W.region | apply W.ret)
    | fail)
  exact Z.body1 Try.results32 rfl fun q => ⟨congrArg Value.bool (dec_true rfl), Ext.at ((hx1.trans (hX0.trans hU2.ext)).trans hx7) q⟩
end Go.Proofs.Yteidpnpbfagaeaa
namespace Go.Proofs.Yteidpnpbfagaeaa
open Go Go.Lt Go.RowKit
set_option linter.unusedVariables false
set_option linter.unusedSimpArgs false
set_option maxRecDepth 20000

theorem take_eqB {A B : List Bool} {k : Nat} {x y : Bool} (h : A.take k = B.take k) (hx : A[k]? = some x) (hy : B[k]? = some y) (he : x = y) : A.take (k + 1) = B.take (k + 1) := by
  rw [take_succ' hx, take_succ' hy, h, he]
set_option maxHeartbeats 4000000 in
theorem ref01_Same (a b : Option Addr) (ca cb : Nat) (A B : List Bool) (w : World) (RA : Row 1 encB w a A) (RB : Row 1 encB w b B) :
    Still Try.prog 44 [.slice a A.length ca, .slice b B.length cb] w (.bool (dec (A = B))) := by
  have hlA := RA.len
  have hlB := RB.len
  by_cases hl : A.length = B.length
  rotate_left
  · rw [dec_false (fun h => hl (by rw [h]))]
    refine Spec.of _ Try.func44 rfl Try.ntmps44 (by kernel_rfl) rfl ?_
    repeat' (first
      | (apply W.condKT; exact rfl; (focus (exact dec_true (by omega); done)))
      | (show WL _ _ _ _ _ _ _; first | apply WL.nil | (refine WL.au (k := ?_)))
      | (show Z _ _ _ _ _; first | apply Z.then_normal | apply Z.then_ret)
      | (show W _ _ _ _ _ _; first | apply W.seq | apply W.region | apply W.ret)
      | fail)
    exact Z.body1 Try.results44 rfl fun m => ⟨rfl, m, rfl⟩
  refine Spec.of _ Try.func44 rfl Try.ntmps44 (by kernel_rfl) rfl ?_
  repeat' (first
    | (apply W.condKF; exact rfl; (focus (exact dec_false (by omega); done)))
    | (show WL _ _ _ _ _ _ _; first | apply WL.nil | (refine WL.au (k := ?_)))
    | (show Z _ _ _ _ _; apply Z.then_normal)
    | (show W _ _ _ _ _ _; first | apply W.seq | apply W.region | apply W.block | apply W.skip)
    | fail)
  refine W.loop1 A.length (fun k => k ≤ A.length ∧ A.take k = B.take k) (fun k => [(0, .slice a A.length ca), (1, .slice b B.length cb), (5, .int .i64 k)]) ⟨Nat.zero_le _, rfl⟩ (fun k h => h.1) ⟨rfl, rfl, rfl, trivial⟩ ?_
  rintro k ⟨hk, hT⟩
  by_cases hlt : k < A.length
  · obtain ⟨x, hx⟩ := getI A hlt
    obtain ⟨y, hy⟩ := getI B (show k < B.length by omega)
    by_cases he : x = y
    · subst he
      repeat' (first
        | (apply W.condKT; exact rfl; (focus (first | exact dec_true (by omega) | exact dec_false (fun h => h rfl); done)))
        | (apply W.condKF; exact rfl; (focus (first | exact dec_true (by omega) | exact dec_false (fun h => h rfl); done)))
        | (show WL _ _ _ _ _ _ _; first | apply WL.nil | (refine WL.au (k := ?_)))
        | (show QL _ _ _ _ _ _ _; first | apply QL.nil | (refine QL.au (k := ?_)) | (apply QL.index tOk; (iterate 8 exact rfl); assumption; (exact extA); exact rfl; omega; assumption; intro b off h; have hcc := h; first | (obtain ⟨h1, h2, h3, h4, h5, h6, _⟩ := h) | (obtain ⟨h1, h2, h3, _⟩ := h) | (obtain ⟨h1, h2, _⟩ := h) | (obtain ⟨h1, _⟩ := h)))
        | (show Z _ _ _ _ _; first | apply Z.then_normal | apply Z.block_normal)
        | (show W _ _ _ _ _ _; first | apply W.seq | apply W.region | apply W.block | apply W.skip | (apply W.regionD tMix; kernel_rfl))
        | fail)
      exact Z.again1 ⟨by omega, take_eqB hT hx hy rfl⟩ ⟨rfl, rfl, rfl, trivial⟩
    · rw [dec_false (fun h => he (by rw [h] at hx; rw [hx] at hy; exact Option.some.inj hy))]
      repeat' (first
        | (apply W.condKT; exact rfl; (focus (first | exact dec_true (by omega) | exact dec_true he; done)))
        | (show WL _ _ _ _ _ _ _; first | apply WL.nil | (refine WL.au (k := ?_)))
        | (show QL _ _ _ _ _ _ _; first | apply QL.nil | (refine QL.au (k := ?_)) | (apply QL.index tOk; (iterate 8 exact rfl); assumption; (exact extA); exact rfl; omega; assumption; intro b off h; have hcc := h; first | (obtain ⟨h1, h2, h3, h4, h5, h6, _⟩ := h) | (obtain ⟨h1, h2, h3, _⟩ := h) | (obtain ⟨h1, h2, _⟩ := h) | (obtain ⟨h1, _⟩ := h)))
        | (show Z _ _ _ _ _; first | apply Z.then_normal | apply Z.then_ret | apply Z.block_ret)
        | (show W _ _ _ _ _ _; first | apply W.seq | apply W.region | apply W.block | apply W.skip | apply W.ret | (apply W.regionD tMix; kernel_rfl))
        | fail)
      exact Z.body1 Try.results44 rfl fun m => ⟨rfl, m, rfl⟩
  · obtain rfl : k = A.length := by omega
    have hAB : A = B := by rw [List.take_length] at hT; rw [hT, hl, List.take_length]
    rw [dec_true hAB]
    repeat' (first
      | (apply W.condKF; exact rfl; (focus (exact dec_false (by omega); done)))
      | (show WL _ _ _ _ _ _ _; first | apply WL.nil | (refine WL.au (k := ?_)))
      | (show Z _ _ _ _ _; first | apply Z.then_normal | apply Z.then_exit | apply Z.block_exit)
      | (show W _ _ _ _ _ _; first | apply W.seq | apply W.region | apply W.ret | apply W.exit)
      | fail)
    exact Z.body1 Try.results44 rfl fun m => ⟨rfl, m, rfl⟩
/-- A witness of kind 0 and of property 0, by value. -/
abbrev witV (r : RunV) : Value := .agg #[.int .i64 0, .int .i64 0, rowVal r.st, rowVal r.ins]
set_option maxHeartbeats 4000000 in
theorem ref18_Same (r q : RunV) (w : World) (hr : RAt w r) (hq : RAt w q) :
    Pure Try.prog 48 [witV r, witV q] w (.bool (dec (r.s = q.s ∧ r.i = q.i))) := by
  have hsm := ref01_Same r.st.1 q.st.1 r.st.2.1 q.st.2.1 r.st.2.2 q.st.2.2
  have hlr := hr.ins.len
  have hlq := hq.ins.len
  have lr : r.i.length = r.ins.2.2.length := List.length_map _
  have lq : q.i.length = q.ins.2.2.length := List.length_map _
  by_cases hs : r.st.2.2 = q.st.2.2
  rotate_left
  · rw [dec_false (fun h => hs h.1)]
    refine Spec.of _ Try.func48 rfl Try.ntmps48 (by kernel_rfl) rfl ?_
    repeat' (first
      | (apply WL.box; (iterate 3 exact rfl); intro gb w' hb hge hc hx; have hcc := hc; (first | (obtain ⟨h1, h2, h3, _⟩ := hc) | (obtain ⟨h1, h2, _⟩ := hc)); (first | (have h_0 := hA; clear h_0; obtain ⟨g3, rfl⟩ : ∃ x, x = gb := ⟨_, rfl⟩; obtain ⟨w3, rfl⟩ : ∃ x, x = w' := ⟨_, rfl⟩; obtain ⟨hx3, rfl⟩ : ∃ x, x = hx := ⟨_, rfl⟩; obtain ⟨y1, y2, y3, y4, _⟩ := hcc) | (obtain ⟨g2, rfl⟩ : ∃ x, x = gb := ⟨_, rfl⟩; obtain ⟨w2, rfl⟩ : ∃ x, x = w' := ⟨_, rfl⟩; obtain ⟨hx2, rfl⟩ : ∃ x, x = hx := ⟨_, rfl⟩; obtain ⟨x1, x2, x3, x4, _⟩ := hcc; have hA := trivial)))
      | (apply WL.gT; exact rfl; exact rfl; (focus (first | exact dec_false (show ¬ (0 : Int) ≠ 0 from fun h => h rfl) | (rw [dec_false hs]; rfl); done)))
      | (apply WL.gF; exact rfl; exact rfl; (focus (first | exact dec_false (show ¬ (0 : Int) ≠ 0 from fun h => h rfl) | (rw [dec_false hs]; rfl); done)))
      | (((show WL _ _ _ (⟨_, .call ⟨.value (.func 44), _, _⟩, _, _, _, _⟩ :: _) _ _ _); apply WL.callS; (iterate 4 exact rfl); exact hsm _ (hr.st.ext (by (exact extA))) (hq.st.ext (by (exact extA)))))
      | (show WL _ _ _ _ _ _ _; first | apply WL.nil | (refine WL.au (k := ?_)) | (apply WL.guardF; exact rfl; exact rfl))
      | (show Z _ _ _ _ _; first | apply Z.then_normal | apply Z.then_ret)
      | (show W _ _ _ _ _ _; first | apply W.seq | apply W.region | apply W.ret | (apply W.condT; exact rfl))
      | fail)
    exact Z.body1 Try.results48 rfl fun m => ⟨rfl, Ext.at (by (exact extA)) m⟩
  by_cases hl : r.ins.2.2.length = q.ins.2.2.length
  rotate_left
  · rw [dec_false (fun h => hl (by rw [← lr, ← lq, h.2]))]
    refine Spec.of _ Try.func48 rfl Try.ntmps48 (by kernel_rfl) rfl ?_
    repeat' (first
      | (apply WL.box; (iterate 3 exact rfl); intro gb w' hb hge hc hx; have hcc := hc; (first | (obtain ⟨h1, h2, h3, _⟩ := hc) | (obtain ⟨h1, h2, _⟩ := hc)); (first | (have h_0 := hA; clear h_0; obtain ⟨g3, rfl⟩ : ∃ x, x = gb := ⟨_, rfl⟩; obtain ⟨w3, rfl⟩ : ∃ x, x = w' := ⟨_, rfl⟩; obtain ⟨hx3, rfl⟩ : ∃ x, x = hx := ⟨_, rfl⟩; obtain ⟨y1, y2, y3, y4, _⟩ := hcc) | (obtain ⟨g2, rfl⟩ : ∃ x, x = gb := ⟨_, rfl⟩; obtain ⟨w2, rfl⟩ : ∃ x, x = w' := ⟨_, rfl⟩; obtain ⟨hx2, rfl⟩ : ∃ x, x = hx := ⟨_, rfl⟩; obtain ⟨x1, x2, x3, x4, _⟩ := hcc; have hA := trivial)))
      | (apply WL.gF; exact rfl; exact rfl; (focus (first | exact dec_false (show ¬ (0 : Int) ≠ 0 from fun h => h rfl) | (rw [dec_true hs]; rfl) | exact dec_true (by omega); done)))
      | (apply W.condKT; exact rfl; (focus (first | exact dec_false (show ¬ (0 : Int) ≠ 0 from fun h => h rfl) | (rw [dec_true hs]; rfl) | exact dec_true (by omega); done)))
      | (((show WL _ _ _ (⟨_, .call ⟨.value (.func 44), _, _⟩, _, _, _, _⟩ :: _) _ _ _); apply WL.callS; (iterate 4 exact rfl); exact hsm _ (hr.st.ext (by (exact extA))) (hq.st.ext (by (exact extA)))))
      | (show WL _ _ _ _ _ _ _; first | apply WL.nil | (refine WL.au (k := ?_)))
      | (show Z _ _ _ _ _; first | apply Z.then_normal | apply Z.then_ret)
      | (show W _ _ _ _ _ _; first | apply W.seq | apply W.region | apply W.ret)
      | fail)
    exact Z.body1 Try.results48 rfl fun m => ⟨rfl, Ext.at (by (exact extA)) m⟩
  refine Spec.of _ Try.func48 rfl Try.ntmps48 (by kernel_rfl) rfl ?_
  repeat' (first
    | (apply WL.box; (iterate 3 exact rfl); intro gb w' hb hge hc hx; have hcc := hc; (first | (obtain ⟨h1, h2, h3, _⟩ := hc) | (obtain ⟨h1, h2, _⟩ := hc)); (first | (have h_0 := hA; clear h_0; obtain ⟨g3, rfl⟩ : ∃ x, x = gb := ⟨_, rfl⟩; obtain ⟨w3, rfl⟩ : ∃ x, x = w' := ⟨_, rfl⟩; obtain ⟨hx3, rfl⟩ : ∃ x, x = hx := ⟨_, rfl⟩; obtain ⟨y1, y2, y3, y4, _⟩ := hcc) | (obtain ⟨g2, rfl⟩ : ∃ x, x = gb := ⟨_, rfl⟩; obtain ⟨w2, rfl⟩ : ∃ x, x = w' := ⟨_, rfl⟩; obtain ⟨hx2, rfl⟩ : ∃ x, x = hx := ⟨_, rfl⟩; obtain ⟨x1, x2, x3, x4, _⟩ := hcc; have hA := trivial)))
    | (apply WL.gF; exact rfl; exact rfl; (focus (first | exact dec_false (show ¬ (0 : Int) ≠ 0 from fun h => h rfl) | (rw [dec_true hs]; rfl) | exact dec_false (by omega); done)))
    | (apply W.condKF; exact rfl; (focus (first | exact dec_false (show ¬ (0 : Int) ≠ 0 from fun h => h rfl) | (rw [dec_true hs]; rfl) | exact dec_false (by omega); done)))
    | (((show WL _ _ _ (⟨_, .call ⟨.value (.func 44), _, _⟩, _, _, _, _⟩ :: _) _ _ _); apply WL.callS; (iterate 4 exact rfl); exact hsm _ (hr.st.ext (by (exact extA))) (hq.st.ext (by (exact extA)))))
    | (show WL _ _ _ _ _ _ _; first | apply WL.nil | (refine WL.au (k := ?_)))
    | (show Z _ _ _ _ _; apply Z.then_normal)
    | (show W _ _ _ _ _ _; first | apply W.seq | apply W.region | apply W.block | apply W.skip)
    | fail)
  have hX3 : Ext w w3 := hx2.trans hx3
  have z4 := hx3.cell x4
  have Rr := hr.ins.ext hX3
  have Rq := hq.ins.ext hX3
  refine W.loop1 r.ins.2.2.length (fun k => k ≤ r.ins.2.2.length ∧ r.i.take k = q.i.take k) (fun k => [(2, .pointer (some ⟨g2, 0, none⟩)), (3, .pointer (some ⟨g3, 0, none⟩)), (5, .int .i64 k)]) ⟨Nat.zero_le _, rfl⟩ (fun k h => h.1) ⟨rfl, rfl, rfl, trivial⟩ ?_
  rintro k ⟨hk, hT⟩
  by_cases hlt : k < r.ins.2.2.length
  · obtain ⟨a, ha⟩ := getI r.ins.2.2 hlt
    obtain ⟨b, hb⟩ := getI q.ins.2.2 (show k < q.ins.2.2.length by omega)
    have ha' : r.i[k]? = some a.2.2 := by show (r.ins.2.2.map (·.2.2))[k]? = _; rw [List.getElem?_map, ha]; rfl
    have hb' : q.i[k]? = some b.2.2 := by show (q.ins.2.2.map (·.2.2))[k]? = _; rw [List.getElem?_map, hb]; rfl
    have Ra := (hr.each a (List.mem_of_getElem? ha)).ext hX3
    have Rb := (hq.each b (List.mem_of_getElem? hb)).ext hX3
    have h2 := ref01_Same a.1 b.1 a.2.1 b.2.1 a.2.2 b.2.2 w3 Ra Rb
    by_cases he : a.2.2 = b.2.2
    · repeat' (first
        | (apply W.condKT; exact rfl; (focus (first | exact dec_true (by omega) | (rw [dec_true he]; rfl); done)))
        | (apply W.condKF; exact rfl; (focus (first | exact dec_true (by omega) | (rw [dec_true he]; rfl); done)))
        | ((show QL _ _ _ _ (⟨_, .call ⟨.value (.func 44), _, _⟩, _, _, _, _⟩ :: _) _ _; apply QL.callS; (iterate 4 exact rfl); exact h2))
        | (show WL _ _ _ _ _ _ _; first | apply WL.nil | (refine WL.au (k := ?_)))
        | (show QL _ _ _ _ _ _ _; first | apply QL.nil | (refine QL.au (k := ?_)) | (apply QL.index tOk; (iterate 8 exact rfl); assumption; (exact extA); exact rfl; omega; assumption; intro b off h; have hcc := h; first | (obtain ⟨h1, h2, h3, h4, h5, h6, _⟩ := h) | (obtain ⟨h1, h2, h3, _⟩ := h) | (obtain ⟨h1, h2, _⟩ := h) | (obtain ⟨h1, _⟩ := h)))
        | (show Z _ _ _ _ _; first | apply Z.then_normal | apply Z.block_normal)
        | (show W _ _ _ _ _ _; first | apply W.seq | apply W.region | apply W.block | apply W.skip | (apply W.regionD tMix; kernel_rfl))
        | fail)
      exact Z.again1 ⟨by omega, by rw [take_succ' ha', take_succ' hb', hT, he]⟩ ⟨rfl, rfl, rfl, trivial⟩
    · rw [dec_false (fun h => he (by rw [h.2, hb'] at ha'; exact (Option.some.inj ha').symm))]
      repeat' (first
        | (apply W.condKT; exact rfl; (focus (first | exact dec_true (by omega) | (rw [dec_false he]; rfl); done)))
        | ((show QL _ _ _ _ (⟨_, .call ⟨.value (.func 44), _, _⟩, _, _, _, _⟩ :: _) _ _; apply QL.callS; (iterate 4 exact rfl); exact h2))
        | (show WL _ _ _ _ _ _ _; first | apply WL.nil | (refine WL.au (k := ?_)))
        | (show QL _ _ _ _ _ _ _; first | apply QL.nil | (refine QL.au (k := ?_)) | (apply QL.index tOk; (iterate 8 exact rfl); assumption; (exact extA); exact rfl; omega; assumption; intro b off h; have hcc := h; first | (obtain ⟨h1, h2, h3, h4, h5, h6, _⟩ := h) | (obtain ⟨h1, h2, h3, _⟩ := h) | (obtain ⟨h1, h2, _⟩ := h) | (obtain ⟨h1, _⟩ := h)))
        | (show Z _ _ _ _ _; first | apply Z.then_normal | apply Z.then_ret | apply Z.block_ret)
        | (show W _ _ _ _ _ _; first | apply W.seq | apply W.region | apply W.block | apply W.skip | apply W.ret | (apply W.regionD tMix; kernel_rfl))
        | fail)
      exact Z.body1 Try.results48 rfl fun m => ⟨rfl, hX3.at m⟩
  · obtain rfl : k = r.ins.2.2.length := by omega
    have hAB : r.i = q.i := by
      have e1 : r.i.take r.ins.2.2.length = r.i := by rw [← lr, List.take_length]
      have e2 : q.i.take r.ins.2.2.length = q.i := by rw [hl, ← lq, List.take_length]
      rw [e1, e2] at hT; exact hT
    rw [dec_true ⟨hs, hAB⟩]
    repeat' (first
      | (apply W.condKF; exact rfl; (focus (exact dec_false (by omega); done)))
      | (show WL _ _ _ _ _ _ _; first | apply WL.nil | (refine WL.au (k := ?_)))
      | (show Z _ _ _ _ _; first | apply Z.then_normal | apply Z.then_exit | apply Z.block_exit)
      | (show W _ _ _ _ _ _; first | apply W.seq | apply W.region | apply W.ret | apply W.exit)
      | fail)
    exact Z.body1 Try.results48 rfl fun m => ⟨rfl, hX3.at m⟩
end Go.Proofs.Yteidpnpbfagaeaa
namespace Go.Proofs.Yteidpnpbfagaeaa
open Go Go.Lt Go.RowKit
set_option linter.unusedVariables false
set_option linter.unusedSimpArgs false
set_option maxRecDepth 20000

theorem un_LenN (w : World) : Still Try.prog 45 [.pointer none] w (.int .i64 0) := by
  refine Spec.of _ Try.func45 rfl Try.ntmps45 (by kernel_rfl) rfl ?_
  repeat' (first
    | (apply WL.eqNil tOk; (iterate 6 exact rfl))
    | (apply W.condKT; exact rfl; (focus (with_reducible exact dec_true rfl; done)))
    | (show WL _ _ _ _ _ _ _; first | apply WL.nil | (refine WL.au (k := ?_)))
    | (show Z _ _ _ _ _; first | apply Z.then_normal | apply Z.then_ret)
    | (show W _ _ _ _ _ _; first | apply W.seq | apply W.region | apply W.ret)
    | fail)
  exact Z.body1 Try.results45 rfl fun m => ⟨rfl, m, rfl⟩
theorem un_GrowN (w : World) : Still Try.prog 34 [.pointer none] w (.int .i64 10) := by
  refine Spec.of _ Try.func34 rfl Try.ntmps34 (by kernel_rfl) rfl ?_
  repeat' (first
    | (apply QL.eqNil tOk; (iterate 6 exact rfl))
    | (apply QL.gT; exact rfl; exact rfl; (focus (with_reducible exact dec_true rfl; done)))
    | (show WL _ _ _ _ _ _ _; first | apply WL.nil | (refine WL.au (k := ?_)))
    | (show QL _ _ _ _ _ _ _; first | apply QL.nil | (refine QL.au (k := ?_)) | (apply QL.guardF; exact rfl; exact rfl))
    | (show Z _ _ _ _ _; first | apply Z.then_normal | apply Z.then_ret)
    | (show W _ _ _ _ _ _; first | apply W.seq | apply W.region | apply W.ret | (apply W.condT; exact rfl) | (apply W.regionD tMix; kernel_rfl))
    | fail)
  exact Z.body1 Try.results34 rfl fun m => ⟨rfl, m, rfl⟩
theorem un_NetN (w : World) : Still Try.prog 36 [.pointer none] w (.slice none 0 0) := by
  refine Spec.of _ Try.func36 rfl Try.ntmps36 (by kernel_rfl) rfl ?_
  repeat' (first
    | (apply WL.eqNil tOk; (iterate 6 exact rfl))
    | (apply W.condKT; exact rfl; (focus (with_reducible exact dec_true rfl; done)))
    | (show WL _ _ _ _ _ _ _; first | apply WL.nil | (refine WL.au (k := ?_)))
    | (show Z _ _ _ _ _; first | apply Z.then_normal | apply Z.then_ret)
    | (show W _ _ _ _ _ _; first | apply W.seq | apply W.region | apply W.ret)
    | fail)
  exact Z.body1 Try.results36 rfl fun m => ⟨rfl, m, rfl⟩
theorem un_frame0 (k : Int) (w : World) : Pure Try.prog 99 [.pointer none, .int .i64 k] w (.agg #[.slice none 0 0, .slice none 0 0]) := by
  refine Spec.of _ Try.func99 rfl Try.ntmps99 (by kernel_rfl) rfl ?_
  by_cases h0 : k < 0
  · repeat' (first
      | (apply WL.build tOk; (iterate 7 exact rfl); kernel_rfl)
      | (apply WL.alloc tOk; (iterate 3 exact rfl); intro gb w' hb hge hx)
      | (apply WL.storeB (w0 := w) tOk; (iterate 4 exact rfl); assumption; (exact extA); (iterate 3 exact rfl); (exact extA); (first | assumption | omega | (focus (apply Nat.le_trans; rotate_left; assumption; exact Below.size (by (exact extA)); done))); intro w' hb hc hX' hU; have hcc := hc; obtain ⟨h1, h2, _⟩ := hc)
      | (apply WL.gT; exact rfl; exact rfl; (focus (first | exact dec_true (by omega) | exact dec_false (by omega); done)))
      | (show WL _ _ _ _ _ _ _; first | apply WL.nil | (refine WL.au (k := ?_)) | (apply WL.guardF; exact rfl; exact rfl))
      | (show Z _ _ _ _ _; first | apply Z.then_normal | apply Z.then_ret)
      | (show W _ _ _ _ _ _; first | apply W.seq | apply W.region | apply W.ret | (apply W.condT; exact rfl))
      | fail)
    exact Z.bodyC tOk Try.results99 rfl rfl rfl rfl hcc fun m => ⟨rfl, Ext.at (by (exact extA)) m⟩
  · repeat' (first
      | (apply WL.build tOk; (iterate 7 exact rfl); kernel_rfl)
      | (apply WL.alloc tOk; (iterate 3 exact rfl); intro gb w' hb hge hx)
      | (apply WL.storeB (w0 := w) tOk; (iterate 4 exact rfl); assumption; (exact extA); (iterate 3 exact rfl); (exact extA); (first | assumption | omega | (focus (apply Nat.le_trans; rotate_left; assumption; exact Below.size (by (exact extA)); done))); intro w' hb hc hX' hU; have hcc := hc; obtain ⟨h1, h2, _⟩ := hc)
      | ((show WL _ _ _ (⟨_, .call ⟨.value (.func 45), _, _⟩, _, _, _, _⟩ :: _) _ _ _); apply WL.callS; (iterate 4 exact rfl); exact un_LenN _)
      | (apply WL.gF; exact rfl; exact rfl; (focus (first | exact dec_true (by omega) | exact dec_false (by omega); done)))
      | (apply W.condKT; exact rfl; (focus (first | exact dec_true (by omega) | exact dec_false (by omega); done)))
      | (show WL _ _ _ _ _ _ _; first | apply WL.nil | (refine WL.au (k := ?_)))
      | (show Z _ _ _ _ _; first | apply Z.then_normal | apply Z.then_ret)
      | (show W _ _ _ _ _ _; first | apply W.seq | apply W.region | apply W.ret)
      | fail)
    exact Z.bodyC tOk Try.results99 rfl rfl rfl rfl hcc fun m => ⟨rfl, Ext.at (by (exact extA)) m⟩
theorem un_state0 (k : Int) (w : World) : Still Try.prog 93 [.pointer none, .int .i64 k] w (.tuple #[.slice none 0 0, .bool false]) := by
  refine Spec.of _ Try.func93 rfl Try.ntmps93 (by kernel_rfl) rfl ?_
  repeat' (first
    | (apply WL.eqNil tOk; (iterate 6 exact rfl))
    | (apply WL.gT; exact rfl; exact rfl; (focus (with_reducible exact dec_true rfl; done)))
    | (show WL _ _ _ _ _ _ _; first | apply WL.nil | (refine WL.au (k := ?_)) | (apply WL.guardF; exact rfl; exact rfl))
    | (show Z _ _ _ _ _; first | apply Z.then_normal | apply Z.then_ret)
    | (show W _ _ _ _ _ _; first | apply W.seq | apply W.region | apply W.ret | (apply W.condT; exact rfl))
    | fail)
  exact Z.body2 Try.results93 rfl rfl fun m => ⟨rfl, m, rfl⟩
theorem pickL_nil (i : Int) : pickL [] i = -1 := by unfold pickL; rw [if_neg (fun h => by have h2 := h.2; have h1 := h.1; simp only [List.length_nil] at h2; omega)]
theorem un_pick0 (i : Int) (w : World) : Still Try.prog 98 [.slice none 0 0, .int .i64 i] w (.int .i64 (-1)) := by
  have h := un_pick none 0 [] i w (Row.nil _ _ _ _)
  rw [pickL_nil] at h
  exact h
theorem un_InN (k i : Int) (w : World) : Pure Try.prog 46 [.pointer none, .int .i64 k, .int .i64 i] w (.int .i64 (-1)) := by
  refine Spec.of _ Try.func46 rfl Try.ntmps46 (by kernel_rfl) rfl ?_
  repeat' (first
    | ((show WL _ _ _ (⟨_, .call ⟨.value (.func 99), _, _⟩, _, _, _, _⟩ :: _) _ _ _); apply WL.callP; (iterate 4 exact rfl); exact un_frame0 k _; intro w' hx)
    | (((show WL _ _ _ (⟨_, .call ⟨.value (.func 98), _, _⟩, _, _, _, _⟩ :: _) _ _ _); apply WL.callS; (iterate 4 exact rfl); exact un_pick0 _ _))
    | (show WL _ _ _ _ _ _ _; first | apply WL.nil | (refine WL.au (k := ?_)))
    | (show Z _ _ _ _ _; apply Z.then_normal)
    | (show W _ _ _ _ _ _; first | apply W.seq | apply W.region | apply W.ret)
    | fail)
  exact Z.body1 Try.results46 rfl fun m => ⟨rfl, Ext.at (by (exact extA)) m⟩
theorem un_StateN (k i : Int) (w : World) : Still Try.prog 41 [.pointer none, .int .i64 k, .int .i64 i] w (.int .i64 (-1)) := by
  refine Spec.of _ Try.func41 rfl Try.ntmps41 (by kernel_rfl) rfl ?_
  repeat' (first
    | ((show WL _ _ _ (⟨_, .call ⟨.value (.func 93), _, _⟩, _, _, _, _⟩ :: _) _ _ _); apply WL.callS; (iterate 4 exact rfl); exact un_state0 k _)
    | (((show WL _ _ _ (⟨_, .call ⟨.value (.func 98), _, _⟩, _, _, _, _⟩ :: _) _ _ _); apply WL.callS; (iterate 4 exact rfl); exact un_pick0 _ _))
    | (show WL _ _ _ _ _ _ _; first | apply WL.nil | (refine WL.au (k := ?_)))
    | (show Z _ _ _ _ _; apply Z.then_normal)
    | (show W _ _ _ _ _ _; first | apply W.seq | apply W.region | apply W.ret)
    | fail)
  exact Z.body1 Try.results41 rfl fun m => ⟨rfl, m, rfl⟩
theorem un_LitN (k l : Int) (w : World) (hl9 : l ≤ 9223372036854775807) : Pure Try.prog 47 [.pointer none, .int .i64 k, .int .i64 l] w (.int .i64 (-1)) := by
  refine Spec.of _ Try.func47 rfl Try.ntmps47 (by kernel_rfl) rfl ?_
  repeat' (first
    | ((show WL _ _ _ (⟨_, .call ⟨.value (.func 99), _, _⟩, _, _, _, _⟩ :: _) _ _ _); apply WL.callP; (iterate 4 exact rfl); exact un_frame0 k _; intro w' hx)
    | ((show WL _ _ _ (⟨_, .call ⟨.value (.func 92), _, _⟩, _, _, _, _⟩ :: _) _ _ _); apply WL.callP; (iterate 4 exact rfl); exact un_litN l _ hl9; intro w' hx)
    | (show WL _ _ _ _ _ _ _; first | apply WL.nil | (refine WL.au (k := ?_)))
    | (show Z _ _ _ _ _; apply Z.then_normal)
    | (show W _ _ _ _ _ _; first | apply W.seq | apply W.region | apply W.ret)
    | fail)
  exact Z.body1 Try.results47 rfl fun m => ⟨rfl, Ext.at (by (exact extA)) m⟩
theorem un_BadN (k p : Int) (w : World) : Still Try.prog 42 [.pointer none, .int .i64 k, .int .i64 p] w (.int .i64 (-1)) := by
  refine Spec.of _ Try.func42 rfl Try.ntmps42 (by kernel_rfl) rfl ?_
  repeat' (first
    | (apply WL.eqNil tOk; (iterate 6 exact rfl))
    | (apply W.condKT; exact rfl; (focus (with_reducible exact dec_true rfl; done)))
    | (show WL _ _ _ _ _ _ _; first | apply WL.nil | (refine WL.au (k := ?_)))
    | (show Z _ _ _ _ _; first | apply Z.then_normal | apply Z.then_ret)
    | (show W _ _ _ _ _ _; first | apply W.seq | apply W.region | apply W.ret)
    | fail)
  exact Z.body1 Try.results42 rfl fun m => ⟨rfl, m, rfl⟩
theorem un_ConsN (k : Int) (w : World) : Still Try.prog 43 [.pointer none, .int .i64 k] w (.slice none 0 0) := by
  refine Spec.of _ Try.func43 rfl Try.ntmps43 (by kernel_rfl) rfl ?_
  by_cases h0 : k < 0
  · repeat' (first
      | (apply WL.gT; exact rfl; exact rfl; (focus (first | exact dec_true (by omega) | exact dec_false (by omega); done)))
      | (show WL _ _ _ _ _ _ _; first | apply WL.nil | (refine WL.au (k := ?_)) | (apply WL.guardF; exact rfl; exact rfl))
      | (show Z _ _ _ _ _; first | apply Z.then_normal | apply Z.then_ret)
      | (show W _ _ _ _ _ _; first | apply W.seq | apply W.region | apply W.ret | (apply W.condT; exact rfl))
      | fail)
    exact Z.body1 Try.results43 rfl fun m => ⟨rfl, m, rfl⟩
  · repeat' (first
      | ((show WL _ _ _ (⟨_, .call ⟨.value (.func 45), _, _⟩, _, _, _, _⟩ :: _) _ _ _); apply WL.callS; (iterate 4 exact rfl); exact un_LenN _)
      | (apply WL.gF; exact rfl; exact rfl; (focus (first | exact dec_true (by omega) | exact dec_false (by omega); done)))
      | (apply W.condKT; exact rfl; (focus (first | exact dec_true (by omega) | exact dec_false (by omega); done)))
      | (show WL _ _ _ _ _ _ _; first | apply WL.nil | (refine WL.au (k := ?_)))
      | (show Z _ _ _ _ _; first | apply Z.then_normal | apply Z.then_ret)
      | (show W _ _ _ _ _ _; first | apply W.seq | apply W.region | apply W.ret)
      | fail)
    exact Z.body1 Try.results43 rfl fun m => ⟨rfl, m, rfl⟩
theorem un_UnlikeN (i k : Int) (w : World) : Still Try.prog 35 [.pointer none, .int .i64 i, .int .i64 k] w (.int .i64 (-1)) := by
  refine Spec.of _ Try.func35 rfl Try.ntmps35 (by kernel_rfl) rfl ?_
  repeat' (first
    | ((show WL _ _ _ (⟨_, .call ⟨.value (.func 93), _, _⟩, _, _, _, _⟩ :: _) _ _ _); apply WL.callS; (iterate 4 exact rfl); exact un_state0 _ _)
    | (apply WL.gT; exact rfl; exact rfl; (focus (first | with_reducible exact Bool.not_true | with_reducible exact Bool.not_false; done)))
    | (show WL _ _ _ _ _ _ _; first | apply WL.nil | (refine WL.au (k := ?_)) | (apply WL.guardF; exact rfl; exact rfl))
    | (show Z _ _ _ _ _; first | apply Z.then_normal | apply Z.then_ret)
    | (show W _ _ _ _ _ _; first | apply W.seq | apply W.region | apply W.ret | (apply W.condT; exact rfl))
    | fail)
  exact Z.body1 Try.results35 rfl fun m => ⟨rfl, m, rfl⟩
theorem un_Run0 (vi : Value) (k : Int) (w : World) : Pure Try.prog 38 [.pointer none, vi, .int .i64 k] w (RunV.val ⟨(none, 0, []), (none, 0, [])⟩) := by
  refine Spec.of _ Try.func38 rfl Try.ntmps38 (by kernel_rfl) rfl ?_
  by_cases h0 : k < 0
  · repeat' (first
      | (apply WL.build tOk; (iterate 7 exact rfl); kernel_rfl)
      | (apply WL.alloc tOk; (iterate 3 exact rfl); intro gb w' hb hge hx)
      | (apply WL.storeB (w0 := w) tOk; (iterate 4 exact rfl); assumption; (exact extA); (iterate 3 exact rfl); (exact extA); (first | assumption | omega | (focus (apply Nat.le_trans; rotate_left; assumption; exact Below.size (by (exact extA)); done))); intro w' hb hc hX' hU; have hcc := hc; obtain ⟨h1, h2, _⟩ := hc)
      | (apply WL.gT; exact rfl; exact rfl; (focus (first | exact dec_true (by omega) | exact dec_false (by omega); done)))
      | (show WL _ _ _ _ _ _ _; first | apply WL.nil | (refine WL.au (k := ?_)) | (apply WL.guardF; exact rfl; exact rfl))
      | (show Z _ _ _ _ _; first | apply Z.then_normal | apply Z.then_ret)
      | (show W _ _ _ _ _ _; first | apply W.seq | apply W.region | apply W.ret | (apply W.condT; exact rfl))
      | fail)
    exact Z.bodyC tOk Try.results38 rfl rfl rfl rfl hcc fun q => ⟨rfl, Ext.at (by (exact extA)) q⟩
  · repeat' (first
      | (apply WL.build tOk; (iterate 7 exact rfl); kernel_rfl)
      | (apply WL.alloc tOk; (iterate 3 exact rfl); intro gb w' hb hge hx)
      | (apply WL.storeB (w0 := w) tOk; (iterate 4 exact rfl); assumption; (exact extA); (iterate 3 exact rfl); (exact extA); (first | assumption | omega | (focus (apply Nat.le_trans; rotate_left; assumption; exact Below.size (by (exact extA)); done))); intro w' hb hc hX' hU; have hcc := hc; obtain ⟨h1, h2, _⟩ := hc)
      | ((show WL _ _ _ (⟨_, .call ⟨.value (.func 45), _, _⟩, _, _, _, _⟩ :: _) _ _ _); apply WL.callS; (iterate 4 exact rfl); exact un_LenN _)
      | (apply WL.gF; exact rfl; exact rfl; (focus (first | exact dec_true (by omega) | exact dec_false (by omega); done)))
      | (apply W.condKT; exact rfl; (focus (first | exact dec_true (by omega) | exact dec_false (by omega); done)))
      | (show WL _ _ _ _ _ _ _; first | apply WL.nil | (refine WL.au (k := ?_)))
      | (show Z _ _ _ _ _; first | apply Z.then_normal | apply Z.then_ret)
      | (show W _ _ _ _ _ _; first | apply W.seq | apply W.region | apply W.ret)
      | fail)
    exact Z.bodyC tOk Try.results38 rfl rfl rfl rfl hcc fun q => ⟨rfl, Ext.at (by (exact extA)) q⟩
set_option maxHeartbeats 4000000 in
theorem law_UnrollNone (k i : Int) (vi : Value) (w : World) (hi9 : i ≤ 9223372036854775807) : Pure Try.prog 6 [.int .i64 k, .int .i64 i, vi] w (.bool true) := by
  have r0 : RAt w ⟨(none, 0, []), (none, 0, [])⟩ := ⟨Row.nil _ _ _ _, Row.nil _ _ _ _, fun y hy => by cases hy⟩
  have hsm := fun (w9 : World) (h9 : Ext w w9) => ref18_Same ⟨(none, 0, []), (none, 0, [])⟩ ⟨(none, 0, []), (none, 0, [])⟩ w9 (r0.ext h9) (r0.ext h9)
  rw [dec_true (show RunV.s ⟨(none, 0, []), (none, 0, [])⟩ = RunV.s ⟨(none, 0, []), (none, 0, [])⟩ ∧ RunV.i ⟨(none, 0, []), (none, 0, [])⟩ = RunV.i ⟨(none, 0, []), (none, 0, [])⟩ from ⟨rfl, rfl⟩)] at hsm
  refine Spec.of _ Try.func6 rfl Try.ntmps6 (by kernel_rfl) rfl ?_
  repeat' (first
    | (apply WL.build tOk; (iterate 7 exact rfl); kernel_rfl)
    | ((show WL _ _ _ (⟨_, .call ⟨.value (.func 34), _, _⟩, _, _, _, _⟩ :: _) _ _ _); apply WL.callS; (iterate 4 exact rfl); exact un_GrowN _)
    | ((show WL _ _ _ (⟨_, .call ⟨.value (.func 45), _, _⟩, _, _, _, _⟩ :: _) _ _ _); apply WL.callS; (iterate 4 exact rfl); exact un_LenN _)
    | ((show WL _ _ _ (⟨_, .call ⟨.value (.func 36), _, _⟩, _, _, _, _⟩ :: _) _ _ _); apply WL.callS; (iterate 4 exact rfl); exact un_NetN _)
    | ((show WL _ _ _ (⟨_, .call ⟨.value (.func 46), _, _⟩, _, _, _, _⟩ :: _) _ _ _); apply WL.callP; (iterate 4 exact rfl); exact un_InN k i _; intro w' hx)
    | ((show WL _ _ _ (⟨_, .call ⟨.value (.func 41), _, _⟩, _, _, _, _⟩ :: _) _ _ _); apply WL.callS; (iterate 4 exact rfl); exact un_StateN k i _)
    | ((show WL _ _ _ (⟨_, .call ⟨.value (.func 47), _, _⟩, _, _, _, _⟩ :: _) _ _ _); apply WL.callP; (iterate 4 exact rfl); exact un_LitN k i _ hi9; intro w' hx)
    | ((show WL _ _ _ (⟨_, .call ⟨.value (.func 42), _, _⟩, _, _, _, _⟩ :: _) _ _ _); apply WL.callS; (iterate 4 exact rfl); exact un_BadN k i _)
    | ((show WL _ _ _ (⟨_, .call ⟨.value (.func 43), _, _⟩, _, _, _, _⟩ :: _) _ _ _); apply WL.callS; (iterate 4 exact rfl); exact un_ConsN k _)
    | ((show WL _ _ _ (⟨_, .call ⟨.value (.func 35), _, _⟩, _, _, _, _⟩ :: _) _ _ _); apply WL.callS; (iterate 4 exact rfl); exact un_UnlikeN k i _)
    | ((show WL _ _ _ (⟨_, .call ⟨.value (.func 38), _, _⟩, _, _, _, _⟩ :: _) _ _ _); apply WL.callP; (iterate 4 exact rfl); exact un_Run0 vi k _; intro w' hx)
    | (((show WL _ _ _ (⟨_, .call ⟨.value (.func 48), _, _⟩, _, _, _, _⟩ :: _) _ _ _); apply WL.callP; (iterate 4 exact rfl); exact hsm _ (by (exact extA)); intro w' hx))
    | ((show WL _ _ _ (⟨_, .call ⟨.value (.func 32), _, _⟩, _, _, _, _⟩ :: _) _ _ _); apply WL.callP; (iterate 4 exact rfl); exact law19_lives _; intro w' hx)
    | (apply WL.gT; exact rfl; exact rfl; (focus (with_reducible exact dec_true rfl; done)))
    | (show WL _ _ _ _ _ _ _; first | apply WL.nil | (refine WL.au (k := ?_)))
    | (show Z _ _ _ _ _; apply Z.then_normal)
    | (show W _ _ _ _ _ _; first | apply W.seq | apply W.region | apply W.ret)
    | fail)
  exact Z.body1 Try.results6 rfl fun m => ⟨rfl, Ext.at (by (exact extA)) m⟩
end Go.Proofs.Yteidpnpbfagaeaa
namespace Go.Proofs.Yteidpnpbfagaeaa
open Go Go.Lt Go.ChangeShapes Go.WideShapes Go.ChangeAt Go.RowKit
set_option linter.unusedVariables false
set_option linter.unusedSimpArgs false
set_option maxRecDepth 20000
open Go.ChangeMaps (open_string shut_string)
namespace unrollNone
theorem own : ownKnob Try.prog.godebug = none := by kernel_rfl
theorem laidOut : laidOutB Try.prog = true := factLaid
set_option maxRecDepth 100000 in
theorem lifted (os : Os) (started : os.Started) (H : Type) (enc : TypeId × Value → H) :
    ReturnsInHanded {} Try.checked os 6 .any (Rows.unrollNoneSpec.pre6 enc Try.prog Try.f6 Rows.unrollNoneRow.domain false) (Rows.unrollNoneSpec.post enc Try.prog Try.f6 false true false false) := by
  refine returnsInHanded_of_change (C := Try.checked) own started (by kernel_rfl) Try.func6
    (ChangeSpec.witness6 (enc := enc) (C := Try.checked) false ⟨#[], #[.int .i64 0, .int .i64 0, .slice none 0 0], []⟩ 8 (by kernel_rfl) (by kernel_rfl) (by kernel_rfl) (by kernel_rfl)) ?_
  intro W base args ds gs before hval0 hW hcnd _
  have hval : ∀ (j : Nat) t v, Try.f6.params[j]? = some t → args[j]? = some v → Value.okWide Try.prog W .any base t v := hval0
  have hW' := hW
  obtain ⟨p, q, hA0, hV, rfl, hfz, hnd⟩ := hW
  have hA : DataW.TrodAll enc Try.prog W 0 (fun _ => true) true Try.f6.params.toList args.toList ds p := hA0
  rw [Try.params6] at hA hval
  obtain ⟨v0, vs0, d0, ds0, p0, q0, hargs, rfl, rfl, h0, r0⟩ := trodAll_cons hA
  obtain ⟨v1, vs1, d1, ds1, p1, q1, rfl, rfl, rfl, h1, r1⟩ := trodAll_cons r0
  obtain ⟨v2, vs2, d2, ds2, p2, q2, rfl, rfl, rfl, h2, r2⟩ := trodAll_cons r1
  obtain ⟨rfl, rfl, rfl⟩ := trodAll_nil r2
  obtain rfl : args = #[v0, v1, v2] := by cases args; simp_all
  obtain ⟨rfl, rfl⟩ := trodVars_none hV
  have k0 := h0
  have lt0 : ∀ x ∈ p0, x.block < W.heap.size := by obtain ⟨m, hm⟩ := k0; exact DataW.trod_lt m _ _ _ hm
  have k1 := h1
  have lt1 : ∀ x ∈ p1, x.block < W.heap.size := by obtain ⟨m, hm⟩ := k1; exact DataW.trod_lt m _ _ _ hm
  have k2 := h2
  have lt2 : ∀ x ∈ p2, x.block < W.heap.size := by obtain ⟨m, hm⟩ := k2; exact DataW.trod_lt m _ _ _ hm
  obtain ⟨n0, rfl, rfl, rfl, w0⟩ := open_int Try.underlying3 (hval 0 3 v0 rfl rfl) h0
  obtain ⟨n1, rfl, rfl, rfl, w1⟩ := open_int Try.underlying3 (hval 1 3 v1 rfl rfl) h1
  obtain ⟨a2, l2, cap2, rfl, hl2, hm2, hna2, R2, w2⟩ := row_of (s := 1) (reads_bool Try.underlying4) (by kernel_rfl) Try.underlying31 (fun _ => rfl) (by decide) (hval 2 31 v2 rfl rfl) h2
  clear hA0 hval0
  refine (Spec.law (law_UnrollNone n0 n1 (.slice a2 l2.length cap2) W (wf_i64 w1).2)).mono fun e W' ⟨he, bel⟩ => ?_
  subst he
  exact ⟨_, rfl, _, _, _, [], _, [], hW', trodAll_mk1 (shut_bool Try.underlying4 _), (trodAll_cons_mk (Below.trod laidOut (by kernel_rfl) (of_decide_eq_true (by kernel_rfl)) k0 bel lt0) (trodAll_cons_mk (Below.trod laidOut (by kernel_rfl) (of_decide_eq_true (by kernel_rfl)) k1 bel lt1) (trodAll_cons_mk (Below.trod laidOut (by kernel_rfl) (of_decide_eq_true (by kernel_rfl)) k2 bel lt2) trodAll_mk0))), rfl, bel.frame _, fun h => by cases h⟩
theorem j0 : (Rows.unrollNoneRow.wf (OpenSpec.ofChange Rows.unrollNoneSpec)) = true := by kernel_rfl
theorem j3 : (Try.f6.params.all (Try.prog.readableRec ·)) = true := by kernel_rfl
theorem j4 : (namedTie Try.prog Rows.unrollNoneRow.named Rows.unrollNoneSpec.vars) = true := by kernel_rfl
theorem j5 : ((Rows.unrollNoneRow.stops == [])) = true := by kernel_rfl
theorem j7 : ((Rows.unrollNoneRow.knobs == [])) = true := by kernel_rfl
theorem j9 : ((Rows.unrollNoneRow.inPlace == Try.prog.inPlace 6)) = true := by kernel_rfl
theorem j10 : ((Rows.unrollNoneRow.unfollowed == Try.prog.unfollowed 6)) = true := by kernel_rfl
theorem j11 : ((Rows.unrollNoneRow.recurses == Try.prog.recurses 6)) = true := by kernel_rfl
theorem j12 : ((Rows.unrollNoneRow.named == Try.prog.varsNamed 6)) = true := by kernel_rfl
theorem j13 : ((Rows.unrollNoneRow.maps == (Try.f6.params.toList ++ Rows.unrollNoneSpec.plain.varTypes Try.prog).any (Try.prog.mapsRec ·))) = true := by kernel_rfl
theorem j14 : ((Rows.unrollNoneRow.ifaces == (Try.f6.params.toList ++ Rows.unrollNoneSpec.plain.varTypes Try.prog).any (Try.prog.ifacesRec ·))) = true := by kernel_rfl
theorem j15 : ((Rows.unrollNoneRow.mapsOut == Try.prog.mapsAmong Try.f6.resultTypes.toList)) = true := by kernel_rfl
theorem j16 : ((Rows.unrollNoneRow.loops == (Try.f6.params.toList ++ Rows.unrollNoneSpec.plain.varTypes Try.prog).any (Try.prog.loopsFrom ·))) = true := by kernel_rfl
theorem j17 : ((Rows.unrollNoneRow.wideKeys == (Try.f6.params.toList ++ Rows.unrollNoneSpec.plain.varTypes Try.prog ++ Try.f6.resultTypes.toList).any (Try.prog.wideKeysFrom ·))) = true := by kernel_rfl
theorem j18 : (Rows.unrollNoneSpec.vars.all (Try.prog.varReadable ·)) = true := by kernel_rfl
theorem j19 : (Try.f6.resultTypes.all (fun t => Try.prog.readableRec t && decide (t < Try.prog.types.size))) = true := by kernel_rfl
theorem j20 : ((Rows.unrollNoneRow.ifacesOut == Try.f6.resultTypes.toList.any (Try.prog.ifacesRec ·))) = true := by kernel_rfl
theorem j21 : ((Rows.unrollNoneRow.loopsOut == Try.f6.resultTypes.toList.any (Try.prog.loopsFrom ·))) = true := by kernel_rfl
theorem j22 : ((Rows.unrollNoneRow.plainKeys == Try.prog.plainKeys)) = true := by rw [show Rows.unrollNoneRow.plainKeys = Rows.liftAsksRow.plainKeys by kernel_rfl]; exact factKeys
theorem j23 : (Rows.unrollNoneRow.shortTexts.isNone) = true := by kernel_rfl
theorem j26 : ((Rows.unrollNoneRow.lifted == Try.prog.liftsFinal)) = true := by rw [show Rows.unrollNoneRow.lifted = Rows.liftAsksRow.lifted by kernel_rfl]; exact factLifts
theorem j27 : ((Try.prog.make == some Rows.unrollNoneRow.make)) = true := by rw [show Rows.unrollNoneRow.make = Rows.liftAsksRow.make by kernel_rfl]; exact factMake
theorem j28 : ((Rows.unrollNoneRow.kinds == (if Rows.unrollNoneRow.domain.isEmpty then [] else Try.f6.params.toList.map fun t => match Try.prog.underlying t with | some (.int k) => some k | _ => none))) = true := by kernel_rfl
theorem j29 : ((Rows.unrollNoneRow.pinned == Rows.unrollNoneRow.pinnedBy)) = true := by kernel_rfl
theorem j30 : ((Rows.unrollNoneRow.veiled == (Try.f6.params.toList ++ Rows.unrollNoneSpec.plain.varTypes Try.prog ++ Try.f6.resultTypes.toList).any (Try.prog.veiledRec ·))) = true := by kernel_rfl
theorem j31 : (Rows.unrollNoneRow.veiledFits Try.prog Try.f6.params.toList (Try.f6.params.toList ++ Rows.unrollNoneSpec.plain.varTypes Try.prog ++ Try.f6.resultTypes.toList)) = true := by kernel_rfl
set_option maxRecDepth 100000 in
theorem closed : joinedFacts Try.checked.prog 6 Try.f6 Rows.unrollNoneSpec Rows.unrollNoneRow = true := by unfold joinedFacts; exact (band (band (band (band (band (band (band (band (band (band (band (band (band (band (band (band (band (band (band (band (band (band (band (band (band (band (band (band (band (band (band j0 factLaid) factMaps) j3) j4) j5) factStops) j7) factKnobs) j9) j10) j11) j12) j13) j14) j15) j16) j17) j18) j19) j20) j21) j22) j23) factHeard) factEnter) j26) j27) j28) j29) j30) j31)
theorem named : Try.checked.prog.funcNamed Rows.unrollNoneRow.func = some 6 := by kernel_rfl
theorem over : Rows.unrollNoneRow.holds Try.pinned (OpenSpec.ofChange Rows.unrollNoneSpec) :=
  OpenClaim.holds_of_wide 6 Try.f6 rfl rfl rfl rfl rfl rfl rfl ⟨rfl, rfl, rfl, rfl, rfl⟩ rfl rfl rfl rfl rfl named Try.func6 closed
    (of_decide_eq_true (by kernel_rfl)) (by unfold Func.isWrapper; first | (rw [if_pos (by decide +kernel)]; kernel_rfl) | (rw [if_neg (by decide +kernel)]; exact ⟨rfl, rfl⟩))
    (fun os started H enc _ => lifted os started H enc)
/-- The statement. -/
theorem proved : Rows.UnrollNoneSaid := over
end unrollNone
end Go.Proofs.Yteidpnpbfagaeaa
