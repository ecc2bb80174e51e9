/- AigTidy: no gate of any store is folded, or there twice. No conditions. -/
import Derived.Test.YtfkdlepemiepdaaFacts
import Derived.Test.YtfkdlepemiepdaaAigV
import Derived.Test.YtfkdlepemiepdaaLtLift
import Derived.Lib.SmallJoins
namespace Go.Proofs.Ytfkdlepemiepdaa
open Go Go.Lt Go.ChangeShapes Go.WideShapes Go.ChangeAt Go.RowKit
set_option linter.unusedVariables false
set_option linter.unusedSimpArgs false
open Go.ChangeMaps (open_string shut_string)
namespace aigTidy
theorem own : ownKnob Try.prog.godebug = none := by kernel_rfl
theorem laidOut : laidOutB Try.prog = true := factLaid
set_option maxRecDepth 100000 in
theorem lifted (os : Os) (started : os.Started) (H : Type) (enc : TypeId × Value → H) :
    ReturnsInHanded {} Try.checked os 11 .any (Rows.aigTidySpec.pre6 enc Try.prog Try.f11 Rows.aigTidyRow.domain false) (Rows.aigTidySpec.post enc Try.prog Try.f11 false true false false) := by
  refine returnsInHanded_of_change (C := Try.checked) own started (by kernel_rfl) Try.func11
    (ChangeSpec.witness6 (enc := enc) (C := Try.checked) false ⟨#[], #[.slice none 0 0], []⟩ 8 (by kernel_rfl) (by kernel_rfl) (by kernel_rfl) (by kernel_rfl)) ?_
  intro W base args ds gs before hval0 hW hcnd _
  have hval : ∀ (j : Nat) t v, Try.f11.params[j]? = some t → args[j]? = some v → Value.okWide Try.prog W .any base t v := hval0
  have hW' := hW
  obtain ⟨p, q, hA0, hV, rfl, hfz, hnd⟩ := hW
  have hA : DataW.TrodAll enc Try.prog W 0 (fun _ => true) true Try.f11.params.toList args.toList ds p := hA0
  rw [Try.params11] at hA hval
  obtain ⟨v0, vs0, d0, ds0, p0, q0, hargs, rfl, rfl, h0, r0⟩ := trodAll_cons hA
  obtain ⟨rfl, rfl, rfl⟩ := trodAll_nil r0
  obtain rfl : args = #[v0] := by cases args; simp_all
  obtain ⟨rfl, rfl⟩ := trodVars_none hV
  have k0 := h0
  have lt0 : ∀ x ∈ p0, x.block < W.heap.size := by obtain ⟨m, hm⟩ := k0; exact DataW.trod_lt m _ _ _ hm
  obtain ⟨a0, l0, cap0, rfl, hl0, hm0, hna0, R0, w0⟩ := row_of (s := 6) (reads_six Try.underlying79 (reads_int Try.underlying3) (reads_int Try.underlying3) (reads_int Try.underlying3) (reads_int Try.underlying3) (reads_row (s := 1) (reads_int Try.underlying3) (by kernel_rfl) Try.underlying23 (fun _ => rfl) (by decide)) (reads_row (s := 2) (reads_pair' (s0 := 1) (s1 := 1) Try.underlying35 (reads_int Try.underlying3) (reads_int Try.underlying3) (by kernel_rfl) rfl rfl (by kernel_rfl) (by kernel_rfl)) (by kernel_rfl) Try.underlying22 (fun _ => rfl) (by decide)) (by kernel_rfl) rfl rfl rfl rfl rfl rfl (by kernel_rfl) (by kernel_rfl) (by kernel_rfl) (by kernel_rfl) (by kernel_rfl) (by kernel_rfl)) (by kernel_rfl) Try.underlying77 (fun _ => rfl) (by decide) (hval 0 77 v0 rfl rfl) h0
  clear hA0 hval0
  refine (Spec.law (law_AigTidy a0 cap0 l0 W R0 (fun x hx => OkR.ok (w0 x hx)) (by assumption))).mono fun e W' ⟨he, bel⟩ => ?_
  subst he
  exact ⟨_, rfl, _, _, _, [], _, [], hW', trodAll_mk1 (shut_bool Try.underlying4 _), (trodAll_cons_mk (Below.trod laidOut (by kernel_rfl) (of_decide_eq_true (by kernel_rfl)) k0 bel lt0) trodAll_mk0), rfl, bel.frame _, fun h => by cases h⟩
theorem j0 : (Rows.aigTidyRow.wf (OpenSpec.ofChange Rows.aigTidySpec)) = true := by kernel_rfl
theorem j3 : (Try.f11.params.all (Try.prog.readableRec ·)) = true := by kernel_rfl
theorem j4 : (namedTie Try.prog Rows.aigTidyRow.named Rows.aigTidySpec.vars) = true := by kernel_rfl
theorem j5 : ((Rows.aigTidyRow.stops == [])) = true := by kernel_rfl
theorem j7 : ((Rows.aigTidyRow.knobs == [])) = true := by kernel_rfl
theorem j9 : ((Rows.aigTidyRow.inPlace == Try.prog.inPlace 11)) = true := by kernel_rfl
theorem j10 : ((Rows.aigTidyRow.unfollowed == Try.prog.unfollowed 11)) = true := by kernel_rfl
theorem j11 : ((Rows.aigTidyRow.recurses == Try.prog.recurses 11)) = true := by kernel_rfl
theorem j12 : ((Rows.aigTidyRow.named == Try.prog.varsNamed 11)) = true := by kernel_rfl
theorem j13 : ((Rows.aigTidyRow.maps == (Try.f11.params.toList ++ Rows.aigTidySpec.plain.varTypes Try.prog).any (Try.prog.mapsRec ·))) = true := by kernel_rfl
theorem j14 : ((Rows.aigTidyRow.ifaces == (Try.f11.params.toList ++ Rows.aigTidySpec.plain.varTypes Try.prog).any (Try.prog.ifacesRec ·))) = true := by kernel_rfl
theorem j15 : ((Rows.aigTidyRow.mapsOut == Try.prog.mapsAmong Try.f11.resultTypes.toList)) = true := by kernel_rfl
theorem j16 : ((Rows.aigTidyRow.loops == (Try.f11.params.toList ++ Rows.aigTidySpec.plain.varTypes Try.prog).any (Try.prog.loopsFrom ·))) = true := by kernel_rfl
theorem j17 : ((Rows.aigTidyRow.wideKeys == (Try.f11.params.toList ++ Rows.aigTidySpec.plain.varTypes Try.prog ++ Try.f11.resultTypes.toList).any (Try.prog.wideKeysFrom ·))) = true := by kernel_rfl
theorem j18 : (Rows.aigTidySpec.vars.all (Try.prog.varReadable ·)) = true := by kernel_rfl
theorem j19 : (Try.f11.resultTypes.all (fun t => Try.prog.readableRec t && decide (t < Try.prog.types.size))) = true := by kernel_rfl
theorem j20 : ((Rows.aigTidyRow.ifacesOut == Try.f11.resultTypes.toList.any (Try.prog.ifacesRec ·))) = true := by kernel_rfl
theorem j21 : ((Rows.aigTidyRow.loopsOut == Try.f11.resultTypes.toList.any (Try.prog.loopsFrom ·))) = true := by kernel_rfl
theorem j22 : ((Rows.aigTidyRow.plainKeys == Try.prog.plainKeys)) = true := by rw [show Rows.aigTidyRow.plainKeys = Rows.frontTellsRow.plainKeys by kernel_rfl]; exact factKeys
theorem j23 : (Rows.aigTidyRow.shortTexts.isNone) = true := by kernel_rfl
theorem j26 : ((Rows.aigTidyRow.lifted == Try.prog.liftsFinal)) = true := by rw [show Rows.aigTidyRow.lifted = Rows.frontTellsRow.lifted by kernel_rfl]; exact factLifts
theorem j27 : ((Try.prog.make == some Rows.aigTidyRow.make)) = true := by rw [show Rows.aigTidyRow.make = Rows.frontTellsRow.make by kernel_rfl]; exact factMake
theorem j28 : ((Rows.aigTidyRow.kinds == (if Rows.aigTidyRow.domain.isEmpty then [] else Try.f11.params.toList.map fun t => match Try.prog.underlying t with | some (.int k) => some k | _ => none))) = true := by kernel_rfl
theorem j29 : ((Rows.aigTidyRow.pinned == Rows.aigTidyRow.pinnedBy)) = true := by kernel_rfl
theorem j30 : ((Rows.aigTidyRow.veiled == (Try.f11.params.toList ++ Rows.aigTidySpec.plain.varTypes Try.prog ++ Try.f11.resultTypes.toList).any (Try.prog.veiledRec ·))) = true := by kernel_rfl
theorem j31 : (Rows.aigTidyRow.veiledFits Try.prog Try.f11.params.toList (Try.f11.params.toList ++ Rows.aigTidySpec.plain.varTypes Try.prog ++ Try.f11.resultTypes.toList)) = true := by kernel_rfl
set_option maxRecDepth 100000 in
theorem closed : joinedFacts Try.checked.prog 11 Try.f11 Rows.aigTidySpec Rows.aigTidyRow = true := by unfold joinedFacts; exact (band (band (band (band (band (band (band (band (band (band (band (band (band (band (band (band (band (band (band (band (band (band (band (band (band (band (band (band (band (band (band j0 factLaid) factMaps) j3) j4) j5) factStops) j7) factKnobs) j9) j10) j11) j12) j13) j14) j15) j16) j17) j18) j19) j20) j21) j22) j23) factHeard) factEnter) j26) j27) j28) j29) j30) j31)
theorem named : Try.checked.prog.funcNamed Rows.aigTidyRow.func = some 11 := by kernel_rfl
theorem over : Rows.aigTidyRow.holds Try.pinned (OpenSpec.ofChange Rows.aigTidySpec) :=
  OpenClaim.holds_of_wide 11 Try.f11 rfl rfl rfl rfl rfl rfl rfl ⟨rfl, rfl, rfl, rfl, rfl⟩ rfl rfl rfl rfl rfl named Try.func11 closed
    (of_decide_eq_true (by kernel_rfl)) (by unfold Func.isWrapper; first | (rw [if_pos (by decide +kernel)]; kernel_rfl) | (rw [if_neg (by decide +kernel)]; exact ⟨rfl, rfl⟩))
    (fun os started H enc _ => lifted os started H enc)
/-- The statement. -/
theorem proved : Rows.AigTidySaid := over
end aigTidy
end Go.Proofs.Ytfkdlepemiepdaa
