/- AigPlays: what a store tells of whatever is put to it, one thing behind the other, and its net, are the reference's. No conditions. -/
import Derived.Test.YtfkdlepemiepdaaFacts
import Derived.Test.YtfkdlepemiepdaaAigW
import Derived.Test.YtfkdlepemiepdaaLtLift
import Derived.Lib.SmallJoins
namespace Go.Proofs.Ytfkdlepemiepdaa
open Go Go.Lt Go.ChangeShapes Go.WideShapes Go.ChangeAt Go.RowKit
set_option linter.unusedVariables false
set_option linter.unusedSimpArgs false
open Go.ChangeMaps (open_string shut_string)
namespace aigPlays
theorem own : ownKnob Try.prog.godebug = none := by kernel_rfl
theorem laidOut : laidOutB Try.prog = true := factLaid
set_option maxRecDepth 100000 in
theorem lifted (os : Os) (started : os.Started) (H : Type) (enc : TypeId × Value → H) :
    ReturnsInHanded {} Try.checked os 13 .any (Rows.aigPlaysSpec.pre6 enc Try.prog Try.f13 Rows.aigPlaysRow.domain false) (Rows.aigPlaysSpec.post enc Try.prog Try.f13 false true false false) := by
  refine returnsInHanded_of_change (C := Try.checked) own started (by kernel_rfl) Try.func13
    (ChangeSpec.witness6 (enc := enc) (C := Try.checked) false ⟨#[], #[.slice none 0 0], []⟩ 8 (by kernel_rfl) (by kernel_rfl) (by kernel_rfl) (by kernel_rfl)) ?_
  intro W base args ds gs before hval0 hW hcnd _
  have hval : ∀ (j : Nat) t v, Try.f13.params[j]? = some t → args[j]? = some v → Value.okWide Try.prog W .any base t v := hval0
  have hW' := hW
  obtain ⟨p, q, hA0, hV, rfl, hfz, hnd⟩ := hW
  have hA : DataW.TrodAll enc Try.prog W 0 (fun _ => true) true Try.f13.params.toList args.toList ds p := hA0
  rw [Try.params13] at hA hval
  obtain ⟨v0, vs0, d0, ds0, p0, q0, hargs, rfl, rfl, h0, r0⟩ := trodAll_cons hA
  obtain ⟨rfl, rfl, rfl⟩ := trodAll_nil r0
  obtain rfl : args = #[v0] := by cases args; simp_all
  obtain ⟨rfl, rfl⟩ := trodVars_none hV
  have k0 := h0
  have lt0 : ∀ x ∈ p0, x.block < W.heap.size := by obtain ⟨m, hm⟩ := k0; exact DataW.trod_lt m _ _ _ hm
  obtain ⟨a0, l0, cap0, rfl, hl0, hm0, hna0, R0, w0⟩ := row_of (s := 6) (reads_six Try.underlying79 (reads_int Try.underlying3) (reads_int Try.underlying3) (reads_int Try.underlying3) (reads_int Try.underlying3) (reads_row (s := 1) (reads_int Try.underlying3) (by kernel_rfl) Try.underlying23 (fun _ => rfl) (by decide)) (reads_row (s := 2) (reads_pair' (s0 := 1) (s1 := 1) Try.underlying35 (reads_int Try.underlying3) (reads_int Try.underlying3) (by kernel_rfl) rfl rfl (by kernel_rfl) (by kernel_rfl)) (by kernel_rfl) Try.underlying22 (fun _ => rfl) (by decide)) (by kernel_rfl) rfl rfl rfl rfl rfl rfl (by kernel_rfl) (by kernel_rfl) (by kernel_rfl) (by kernel_rfl) (by kernel_rfl) (by kernel_rfl)) (by kernel_rfl) Try.underlying77 (fun _ => rfl) (by decide) (hval 0 77 v0 rfl rfl) h0
  clear hA0 hval0
  refine (Spec.law (law_AigPlays a0 cap0 l0 W R0 (fun x hx => OkR.ok (w0 x hx)) (by assumption))).mono fun e W' ⟨he, bel⟩ => ?_
  subst he
  exact ⟨_, rfl, _, _, _, [], _, [], hW', trodAll_mk1 (shut_bool Try.underlying4 _), (trodAll_cons_mk (Below.trod laidOut (by kernel_rfl) (of_decide_eq_true (by kernel_rfl)) k0 bel lt0) trodAll_mk0), rfl, bel.frame _, fun h => by cases h⟩
theorem j0 : (Rows.aigPlaysRow.wf (OpenSpec.ofChange Rows.aigPlaysSpec)) = true := by kernel_rfl
theorem j3 : (Try.f13.params.all (Try.prog.readableRec ·)) = true := by kernel_rfl
theorem j4 : (namedTie Try.prog Rows.aigPlaysRow.named Rows.aigPlaysSpec.vars) = true := by kernel_rfl
theorem j5 : ((Rows.aigPlaysRow.stops == [])) = true := by kernel_rfl
theorem j7 : ((Rows.aigPlaysRow.knobs == [])) = true := by kernel_rfl
theorem j9 : ((Rows.aigPlaysRow.inPlace == Try.prog.inPlace 13)) = true := by kernel_rfl
theorem j10 : ((Rows.aigPlaysRow.unfollowed == Try.prog.unfollowed 13)) = true := by kernel_rfl
theorem j11 : ((Rows.aigPlaysRow.recurses == Try.prog.recurses 13)) = true := by kernel_rfl
theorem j12 : ((Rows.aigPlaysRow.named == Try.prog.varsNamed 13)) = true := by kernel_rfl
theorem j13 : ((Rows.aigPlaysRow.maps == (Try.f13.params.toList ++ Rows.aigPlaysSpec.plain.varTypes Try.prog).any (Try.prog.mapsRec ·))) = true := by kernel_rfl
theorem j14 : ((Rows.aigPlaysRow.ifaces == (Try.f13.params.toList ++ Rows.aigPlaysSpec.plain.varTypes Try.prog).any (Try.prog.ifacesRec ·))) = true := by kernel_rfl
theorem j15 : ((Rows.aigPlaysRow.mapsOut == Try.prog.mapsAmong Try.f13.resultTypes.toList)) = true := by kernel_rfl
theorem j16 : ((Rows.aigPlaysRow.loops == (Try.f13.params.toList ++ Rows.aigPlaysSpec.plain.varTypes Try.prog).any (Try.prog.loopsFrom ·))) = true := by kernel_rfl
theorem j17 : ((Rows.aigPlaysRow.wideKeys == (Try.f13.params.toList ++ Rows.aigPlaysSpec.plain.varTypes Try.prog ++ Try.f13.resultTypes.toList).any (Try.prog.wideKeysFrom ·))) = true := by kernel_rfl
theorem j18 : (Rows.aigPlaysSpec.vars.all (Try.prog.varReadable ·)) = true := by kernel_rfl
theorem j19 : (Try.f13.resultTypes.all (fun t => Try.prog.readableRec t && decide (t < Try.prog.types.size))) = true := by kernel_rfl
theorem j20 : ((Rows.aigPlaysRow.ifacesOut == Try.f13.resultTypes.toList.any (Try.prog.ifacesRec ·))) = true := by kernel_rfl
theorem j21 : ((Rows.aigPlaysRow.loopsOut == Try.f13.resultTypes.toList.any (Try.prog.loopsFrom ·))) = true := by kernel_rfl
theorem j22 : ((Rows.aigPlaysRow.plainKeys == Try.prog.plainKeys)) = true := by rw [show Rows.aigPlaysRow.plainKeys = Rows.frontTellsRow.plainKeys by kernel_rfl]; exact factKeys
theorem j23 : (Rows.aigPlaysRow.shortTexts.isNone) = true := by kernel_rfl
theorem j26 : ((Rows.aigPlaysRow.lifted == Try.prog.liftsFinal)) = true := by rw [show Rows.aigPlaysRow.lifted = Rows.frontTellsRow.lifted by kernel_rfl]; exact factLifts
theorem j27 : ((Try.prog.make == some Rows.aigPlaysRow.make)) = true := by rw [show Rows.aigPlaysRow.make = Rows.frontTellsRow.make by kernel_rfl]; exact factMake
theorem j28 : ((Rows.aigPlaysRow.kinds == (if Rows.aigPlaysRow.domain.isEmpty then [] else Try.f13.params.toList.map fun t => match Try.prog.underlying t with | some (.int k) => some k | _ => none))) = true := by kernel_rfl
theorem j29 : ((Rows.aigPlaysRow.pinned == Rows.aigPlaysRow.pinnedBy)) = true := by kernel_rfl
theorem j30 : ((Rows.aigPlaysRow.veiled == (Try.f13.params.toList ++ Rows.aigPlaysSpec.plain.varTypes Try.prog ++ Try.f13.resultTypes.toList).any (Try.prog.veiledRec ·))) = true := by kernel_rfl
theorem j31 : (Rows.aigPlaysRow.veiledFits Try.prog Try.f13.params.toList (Try.f13.params.toList ++ Rows.aigPlaysSpec.plain.varTypes Try.prog ++ Try.f13.resultTypes.toList)) = true := by kernel_rfl
set_option maxRecDepth 100000 in
theorem closed : joinedFacts Try.checked.prog 13 Try.f13 Rows.aigPlaysSpec Rows.aigPlaysRow = true := by unfold joinedFacts; exact (band (band (band (band (band (band (band (band (band (band (band (band (band (band (band (band (band (band (band (band (band (band (band (band (band (band (band (band (band (band (band j0 factLaid) factMaps) j3) j4) j5) factStops) j7) factKnobs) j9) j10) j11) j12) j13) j14) j15) j16) j17) j18) j19) j20) j21) j22) j23) factHeard) factEnter) j26) j27) j28) j29) j30) j31)
theorem named : Try.checked.prog.funcNamed Rows.aigPlaysRow.func = some 13 := by kernel_rfl
theorem over : Rows.aigPlaysRow.holds Try.pinned (OpenSpec.ofChange Rows.aigPlaysSpec) :=
  OpenClaim.holds_of_wide 13 Try.f13 rfl rfl rfl rfl rfl rfl rfl ⟨rfl, rfl, rfl, rfl, rfl⟩ rfl rfl rfl rfl rfl named Try.func13 closed
    (of_decide_eq_true (by kernel_rfl)) (by unfold Func.isWrapper; first | (rw [if_pos (by decide +kernel)]; kernel_rfl) | (rw [if_neg (by decide +kernel)]; exact ⟨rfl, rfl⟩))
    (fun os started H enc _ => lifted os started H enc)
/-- The statement. -/
theorem proved : Rows.AigPlaysSaid := over
end aigPlays
end Go.Proofs.Ytfkdlepemiepdaa
