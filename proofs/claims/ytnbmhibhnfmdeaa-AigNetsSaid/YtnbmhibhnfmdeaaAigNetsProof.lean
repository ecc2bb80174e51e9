/- AigNets: what the program says of a net is what the reference says. No conditions. -/
import Derived.Test.YtnbmhibhnfmdeaaFacts
import Derived.Test.YtnbmhibhnfmdeaaAig7
import Derived.Test.YtnbmhibhnfmdeaaLtLift
import Derived.Lib.SmallJoins
namespace Go.Proofs.Ytnbmhibhnfmdeaa
open Go Go.Lt Go.ChangeShapes Go.WideShapes Go.ChangeAt Go.RowKit
set_option linter.unusedVariables false
set_option linter.unusedSimpArgs false
open Go.ChangeMaps (open_string shut_string)
namespace aigNets
theorem own : ownKnob Try.prog.godebug = none := by kernel_rfl
theorem laidOut : laidOutB Try.prog = true := factLaid
set_option maxRecDepth 100000 in
theorem lifted (os : Os) (started : os.Started) (H : Type) (enc : TypeId × Value → H) :
    ReturnsInHanded {} Try.checked os 8 .any (Rows.aigNetsSpec.pre6 enc Try.prog Try.f8 Rows.aigNetsRow.domain false) (Rows.aigNetsSpec.post enc Try.prog Try.f8 false true false false) := by
  refine returnsInHanded_of_change (C := Try.checked) own started (by kernel_rfl) Try.func8
    (ChangeSpec.witness6 (enc := enc) (C := Try.checked) false ⟨#[], #[.slice none 0 0], []⟩ 8 (by kernel_rfl) (by kernel_rfl) (by kernel_rfl) (by kernel_rfl)) ?_
  intro W base args ds gs before hval0 hW hcnd _
  have hval : ∀ (j : Nat) t v, Try.f8.params[j]? = some t → args[j]? = some v → Value.okWide Try.prog W .any base t v := hval0
  have hW' := hW
  obtain ⟨p, q, hA0, hV, rfl, hfz, hnd⟩ := hW
  have hA : DataW.TrodAll enc Try.prog W 0 (fun _ => true) true Try.f8.params.toList args.toList ds p := hA0
  rw [Try.params8] at hA hval
  obtain ⟨v0, vs0, d0, ds0, p0, q0, hargs, rfl, rfl, h0, r0⟩ := trodAll_cons hA
  obtain ⟨rfl, rfl, rfl⟩ := trodAll_nil r0
  obtain rfl : args = #[v0] := by cases args; simp_all
  obtain ⟨rfl, rfl⟩ := trodVars_none hV
  have k0 := h0
  have lt0 : ∀ x ∈ p0, x.block < W.heap.size := by obtain ⟨m, hm⟩ := k0; exact DataW.trod_lt m _ _ _ hm
  obtain ⟨a0, l0, cap0, rfl, hl0, hm0, hna0, R0, w0⟩ := row_of (s := 2) (reads_pair' (s0 := 1) (s1 := 1) Try.underlying65 (reads_int Try.underlying3) (reads_int Try.underlying3) (by kernel_rfl) rfl rfl (by kernel_rfl) (by kernel_rfl)) (by kernel_rfl) Try.underlying34 (fun _ => rfl) (by decide) (hval 0 34 v0 rfl rfl) h0
  clear hA0 hval0
  refine (Spec.law (law_AigNets a0 cap0 l0 W R0 hna0 hl0)).mono fun e W' ⟨he, bel⟩ => ?_
  subst he
  exact ⟨_, rfl, _, _, _, [], _, [], hW', trodAll_mk1 (shut_bool Try.underlying4 _), (trodAll_cons_mk (Below.trod laidOut (by kernel_rfl) (of_decide_eq_true (by kernel_rfl)) k0 bel lt0) trodAll_mk0), rfl, bel.frame _, fun h => by cases h⟩
theorem j0 : (Rows.aigNetsRow.wf (OpenSpec.ofChange Rows.aigNetsSpec)) = true := by kernel_rfl
theorem j3 : (Try.f8.params.all (Try.prog.readableRec ·)) = true := by kernel_rfl
theorem j4 : (namedTie Try.prog Rows.aigNetsRow.named Rows.aigNetsSpec.vars) = true := by kernel_rfl
theorem j5 : ((Rows.aigNetsRow.stops == [])) = true := by kernel_rfl
theorem j7 : ((Rows.aigNetsRow.knobs == [])) = true := by kernel_rfl
theorem j9 : ((Rows.aigNetsRow.inPlace == Try.prog.inPlace 8)) = true := by kernel_rfl
theorem j10 : ((Rows.aigNetsRow.unfollowed == Try.prog.unfollowed 8)) = true := by kernel_rfl
theorem j11 : ((Rows.aigNetsRow.recurses == Try.prog.recurses 8)) = true := by kernel_rfl
theorem j12 : ((Rows.aigNetsRow.named == Try.prog.varsNamed 8)) = true := by kernel_rfl
theorem j13 : ((Rows.aigNetsRow.maps == (Try.f8.params.toList ++ Rows.aigNetsSpec.plain.varTypes Try.prog).any (Try.prog.mapsRec ·))) = true := by kernel_rfl
theorem j14 : ((Rows.aigNetsRow.ifaces == (Try.f8.params.toList ++ Rows.aigNetsSpec.plain.varTypes Try.prog).any (Try.prog.ifacesRec ·))) = true := by kernel_rfl
theorem j15 : ((Rows.aigNetsRow.mapsOut == Try.prog.mapsAmong Try.f8.resultTypes.toList)) = true := by kernel_rfl
theorem j16 : ((Rows.aigNetsRow.loops == (Try.f8.params.toList ++ Rows.aigNetsSpec.plain.varTypes Try.prog).any (Try.prog.loopsFrom ·))) = true := by kernel_rfl
theorem j17 : ((Rows.aigNetsRow.wideKeys == (Try.f8.params.toList ++ Rows.aigNetsSpec.plain.varTypes Try.prog ++ Try.f8.resultTypes.toList).any (Try.prog.wideKeysFrom ·))) = true := by kernel_rfl
theorem j18 : (Rows.aigNetsSpec.vars.all (Try.prog.varReadable ·)) = true := by kernel_rfl
theorem j19 : (Try.f8.resultTypes.all (fun t => Try.prog.readableRec t && decide (t < Try.prog.types.size))) = true := by kernel_rfl
theorem j20 : ((Rows.aigNetsRow.ifacesOut == Try.f8.resultTypes.toList.any (Try.prog.ifacesRec ·))) = true := by kernel_rfl
theorem j21 : ((Rows.aigNetsRow.loopsOut == Try.f8.resultTypes.toList.any (Try.prog.loopsFrom ·))) = true := by kernel_rfl
theorem j22 : ((Rows.aigNetsRow.plainKeys == Try.prog.plainKeys)) = true := by rw [show Rows.aigNetsRow.plainKeys = Rows.triWordsRow.plainKeys by kernel_rfl]; exact factKeys
theorem j23 : (Rows.aigNetsRow.shortTexts.isNone) = true := by kernel_rfl
theorem j26 : ((Rows.aigNetsRow.lifted == Try.prog.liftsFinal)) = true := by rw [show Rows.aigNetsRow.lifted = Rows.triWordsRow.lifted by kernel_rfl]; exact factLifts
theorem j27 : ((Try.prog.make == some Rows.aigNetsRow.make)) = true := by rw [show Rows.aigNetsRow.make = Rows.triWordsRow.make by kernel_rfl]; exact factMake
theorem j28 : ((Rows.aigNetsRow.kinds == (if Rows.aigNetsRow.domain.isEmpty then [] else Try.f8.params.toList.map fun t => match Try.prog.underlying t with | some (.int k) => some k | _ => none))) = true := by kernel_rfl
theorem j29 : ((Rows.aigNetsRow.pinned == Rows.aigNetsRow.pinnedBy)) = true := by kernel_rfl
theorem j30 : ((Rows.aigNetsRow.veiled == (Try.f8.params.toList ++ Rows.aigNetsSpec.plain.varTypes Try.prog ++ Try.f8.resultTypes.toList).any (Try.prog.veiledRec ·))) = true := by kernel_rfl
theorem j31 : (Rows.aigNetsRow.veiledFits Try.prog Try.f8.params.toList (Try.f8.params.toList ++ Rows.aigNetsSpec.plain.varTypes Try.prog ++ Try.f8.resultTypes.toList)) = true := by kernel_rfl
set_option maxRecDepth 100000 in
theorem closed : joinedFacts Try.checked.prog 8 Try.f8 Rows.aigNetsSpec Rows.aigNetsRow = true := by unfold joinedFacts; exact (band (band (band (band (band (band (band (band (band (band (band (band (band (band (band (band (band (band (band (band (band (band (band (band (band (band (band (band (band (band (band j0 factLaid) factMaps) j3) j4) j5) factStops) j7) factKnobs) j9) j10) j11) j12) j13) j14) j15) j16) j17) j18) j19) j20) j21) j22) j23) factHeard) factEnter) j26) j27) j28) j29) j30) j31)
theorem named : Try.checked.prog.funcNamed Rows.aigNetsRow.func = some 8 := by kernel_rfl
theorem over : Rows.aigNetsRow.holds Try.pinned (OpenSpec.ofChange Rows.aigNetsSpec) :=
  OpenClaim.holds_of_wide 8 Try.f8 rfl rfl rfl rfl rfl rfl rfl ⟨rfl, rfl, rfl, rfl, rfl⟩ rfl rfl rfl rfl rfl named Try.func8 closed
    (of_decide_eq_true (by kernel_rfl)) (by unfold Func.isWrapper; first | (rw [if_pos (by decide +kernel)]; kernel_rfl) | (rw [if_neg (by decide +kernel)]; exact ⟨rfl, rfl⟩))
    (fun os started H enc _ => lifted os started H enc)
/-- The statement. -/
theorem proved : Rows.AigNetsSaid := over
end aigNets
end Go.Proofs.Ytnbmhibhnfmdeaa
