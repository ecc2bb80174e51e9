/- TrailKeeps: levels never fall along the list, and what stays behind Back is as it was. No conditions. -/
import Derived.Test.YtnbmhibhnfmdeaaFacts
import Derived.Test.YtnbmhibhnfmdeaaTrail11
import Derived.Test.YtnbmhibhnfmdeaaLtLift
import Derived.Lib.SmallJoins
namespace Go.Proofs.Ytnbmhibhnfmdeaa
open Go Go.Lt Go.ChangeShapes Go.WideShapes Go.ChangeAt Go.RowKit
set_option linter.unusedVariables false
set_option linter.unusedSimpArgs false
open Go.ChangeMaps (open_string shut_string)
namespace trailKeeps
theorem own : ownKnob Try.prog.godebug = none := by kernel_rfl
theorem laidOut : laidOutB Try.prog = true := factLaid
set_option maxRecDepth 100000 in
theorem lifted (os : Os) (started : os.Started) (H : Type) (enc : TypeId × Value → H) :
    ReturnsInHanded {} Try.checked os 14 .any (Rows.trailKeepsSpec.pre6 enc Try.prog Try.f14 Rows.trailKeepsRow.domain false) (Rows.trailKeepsSpec.post enc Try.prog Try.f14 false true false false) := by
  refine returnsInHanded_of_change (C := Try.checked) own started (by kernel_rfl) Try.func14
    (ChangeSpec.witness6 (enc := enc) (C := Try.checked) false ⟨#[], #[.slice none 0 0, .int .u8 0], []⟩ 8 (by kernel_rfl) (by kernel_rfl) (by kernel_rfl) (by kernel_rfl)) ?_
  intro W base args ds gs before hval0 hW hcnd _
  have hval : ∀ (j : Nat) t v, Try.f14.params[j]? = some t → args[j]? = some v → Value.okWide Try.prog W .any base t v := hval0
  have hW' := hW
  obtain ⟨p, q, hA0, hV, rfl, hfz, hnd⟩ := hW
  have hA : DataW.TrodAll enc Try.prog W 0 (fun _ => true) true Try.f14.params.toList args.toList ds p := hA0
  rw [Try.params14] at hA hval
  obtain ⟨v0, vs0, d0, ds0, p0, q0, hargs, rfl, rfl, h0, r0⟩ := trodAll_cons hA
  obtain ⟨v1, vs1, d1, ds1, p1, q1, rfl, rfl, rfl, h1, r1⟩ := trodAll_cons r0
  obtain ⟨rfl, rfl, rfl⟩ := trodAll_nil r1
  obtain rfl : args = #[v0, v1] := by cases args; simp_all
  obtain ⟨rfl, rfl⟩ := trodVars_none hV
  have k0 := h0
  have lt0 : ∀ x ∈ p0, x.block < W.heap.size := by obtain ⟨m, hm⟩ := k0; exact DataW.trod_lt m _ _ _ hm
  have k1 := h1
  have lt1 : ∀ x ∈ p1, x.block < W.heap.size := by obtain ⟨m, hm⟩ := k1; exact DataW.trod_lt m _ _ _ hm
  obtain ⟨a0, l0, cap0, rfl, hl0, hm0, hna0, R0, w0⟩ := row_of (s := 3) (reads_triple' (s0 := 1) (s1 := 1) (s2 := 1) Try.underlying89 (reads_int Try.underlying3) (reads_int Try.underlying3) (reads_int Try.underlying3) (by kernel_rfl) rfl rfl rfl (by kernel_rfl) (by kernel_rfl) (by kernel_rfl)) (by kernel_rfl) Try.underlying85 (fun _ => rfl) (by decide) (hval 0 85 v0 rfl rfl) h0
  obtain ⟨n1, rfl, rfl, rfl, w1⟩ := open_int Try.underlying5 (hval 1 5 v1 rfl rfl) h1
  clear hA0 hval0
  refine (Spec.law (law_TrailKeeps a0 cap0 l0 n1 W R0 hl0 (fun x hx => wf_i64 (w0 x hx).2.1) (wf_u8 w1))).mono fun e W' ⟨he, bel⟩ => ?_
  subst he
  exact ⟨_, rfl, _, _, _, [], _, [], hW', trodAll_mk1 (shut_bool Try.underlying4 _), (trodAll_cons_mk (Below.trod laidOut (by kernel_rfl) (of_decide_eq_true (by kernel_rfl)) k0 bel lt0) (trodAll_cons_mk (Below.trod laidOut (by kernel_rfl) (of_decide_eq_true (by kernel_rfl)) k1 bel lt1) trodAll_mk0)), rfl, bel.frame _, fun h => by cases h⟩
theorem j0 : (Rows.trailKeepsRow.wf (OpenSpec.ofChange Rows.trailKeepsSpec)) = true := by kernel_rfl
theorem j3 : (Try.f14.params.all (Try.prog.readableRec ·)) = true := by kernel_rfl
theorem j4 : (namedTie Try.prog Rows.trailKeepsRow.named Rows.trailKeepsSpec.vars) = true := by kernel_rfl
theorem j5 : ((Rows.trailKeepsRow.stops == [])) = true := by kernel_rfl
theorem j7 : ((Rows.trailKeepsRow.knobs == [])) = true := by kernel_rfl
theorem j9 : ((Rows.trailKeepsRow.inPlace == Try.prog.inPlace 14)) = true := by kernel_rfl
theorem j10 : ((Rows.trailKeepsRow.unfollowed == Try.prog.unfollowed 14)) = true := by kernel_rfl
theorem j11 : ((Rows.trailKeepsRow.recurses == Try.prog.recurses 14)) = true := by kernel_rfl
theorem j12 : ((Rows.trailKeepsRow.named == Try.prog.varsNamed 14)) = true := by kernel_rfl
theorem j13 : ((Rows.trailKeepsRow.maps == (Try.f14.params.toList ++ Rows.trailKeepsSpec.plain.varTypes Try.prog).any (Try.prog.mapsRec ·))) = true := by kernel_rfl
theorem j14 : ((Rows.trailKeepsRow.ifaces == (Try.f14.params.toList ++ Rows.trailKeepsSpec.plain.varTypes Try.prog).any (Try.prog.ifacesRec ·))) = true := by kernel_rfl
theorem j15 : ((Rows.trailKeepsRow.mapsOut == Try.prog.mapsAmong Try.f14.resultTypes.toList)) = true := by kernel_rfl
theorem j16 : ((Rows.trailKeepsRow.loops == (Try.f14.params.toList ++ Rows.trailKeepsSpec.plain.varTypes Try.prog).any (Try.prog.loopsFrom ·))) = true := by kernel_rfl
theorem j17 : ((Rows.trailKeepsRow.wideKeys == (Try.f14.params.toList ++ Rows.trailKeepsSpec.plain.varTypes Try.prog ++ Try.f14.resultTypes.toList).any (Try.prog.wideKeysFrom ·))) = true := by kernel_rfl
theorem j18 : (Rows.trailKeepsSpec.vars.all (Try.prog.varReadable ·)) = true := by kernel_rfl
theorem j19 : (Try.f14.resultTypes.all (fun t => Try.prog.readableRec t && decide (t < Try.prog.types.size))) = true := by kernel_rfl
theorem j20 : ((Rows.trailKeepsRow.ifacesOut == Try.f14.resultTypes.toList.any (Try.prog.ifacesRec ·))) = true := by kernel_rfl
theorem j21 : ((Rows.trailKeepsRow.loopsOut == Try.f14.resultTypes.toList.any (Try.prog.loopsFrom ·))) = true := by kernel_rfl
theorem j22 : ((Rows.trailKeepsRow.plainKeys == Try.prog.plainKeys)) = true := by rw [show Rows.trailKeepsRow.plainKeys = Rows.triWordsRow.plainKeys by kernel_rfl]; exact factKeys
theorem j23 : (Rows.trailKeepsRow.shortTexts.isNone) = true := by kernel_rfl
theorem j26 : ((Rows.trailKeepsRow.lifted == Try.prog.liftsFinal)) = true := by rw [show Rows.trailKeepsRow.lifted = Rows.triWordsRow.lifted by kernel_rfl]; exact factLifts
theorem j27 : ((Try.prog.make == some Rows.trailKeepsRow.make)) = true := by rw [show Rows.trailKeepsRow.make = Rows.triWordsRow.make by kernel_rfl]; exact factMake
theorem j28 : ((Rows.trailKeepsRow.kinds == (if Rows.trailKeepsRow.domain.isEmpty then [] else Try.f14.params.toList.map fun t => match Try.prog.underlying t with | some (.int k) => some k | _ => none))) = true := by kernel_rfl
theorem j29 : ((Rows.trailKeepsRow.pinned == Rows.trailKeepsRow.pinnedBy)) = true := by kernel_rfl
theorem j30 : ((Rows.trailKeepsRow.veiled == (Try.f14.params.toList ++ Rows.trailKeepsSpec.plain.varTypes Try.prog ++ Try.f14.resultTypes.toList).any (Try.prog.veiledRec ·))) = true := by kernel_rfl
theorem j31 : (Rows.trailKeepsRow.veiledFits Try.prog Try.f14.params.toList (Try.f14.params.toList ++ Rows.trailKeepsSpec.plain.varTypes Try.prog ++ Try.f14.resultTypes.toList)) = true := by kernel_rfl
set_option maxRecDepth 100000 in
theorem closed : joinedFacts Try.checked.prog 14 Try.f14 Rows.trailKeepsSpec Rows.trailKeepsRow = true := by unfold joinedFacts; exact (band (band (band (band (band (band (band (band (band (band (band (band (band (band (band (band (band (band (band (band (band (band (band (band (band (band (band (band (band (band (band j0 factLaid) factMaps) j3) j4) j5) factStops) j7) factKnobs) j9) j10) j11) j12) j13) j14) j15) j16) j17) j18) j19) j20) j21) j22) j23) factHeard) factEnter) j26) j27) j28) j29) j30) j31)
theorem named : Try.checked.prog.funcNamed Rows.trailKeepsRow.func = some 14 := by kernel_rfl
theorem over : Rows.trailKeepsRow.holds Try.pinned (OpenSpec.ofChange Rows.trailKeepsSpec) :=
  OpenClaim.holds_of_wide 14 Try.f14 rfl rfl rfl rfl rfl rfl rfl ⟨rfl, rfl, rfl, rfl, rfl⟩ rfl rfl rfl rfl rfl named Try.func14 closed
    (of_decide_eq_true (by kernel_rfl)) (by unfold Func.isWrapper; first | (rw [if_pos (by decide +kernel)]; kernel_rfl) | (rw [if_neg (by decide +kernel)]; exact ⟨rfl, rfl⟩))
    (fun os started H enc _ => lifted os started H enc)
/-- The statement. -/
theorem proved : Rows.TrailKeepsSaid := over
end trailKeeps
end Go.Proofs.Ytnbmhibhnfmdeaa
