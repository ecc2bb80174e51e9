/- TrailPlays: what a trail tells is what the reference tells. No conditions. -/
import Derived.Test.YtnbmhibhnfmdeaaFacts
import Derived.Test.YtnbmhibhnfmdeaaTrail10
import Derived.Test.YtnbmhibhnfmdeaaLtLift
import Derived.Lib.SmallJoins
namespace Go.Proofs.Ytnbmhibhnfmdeaa
open Go Go.Lt Go.ChangeShapes Go.WideShapes Go.ChangeAt Go.RowKit
set_option linter.unusedVariables false
set_option linter.unusedSimpArgs false
open Go.ChangeMaps (open_string shut_string)
namespace trailPlays
theorem own : ownKnob Try.prog.godebug = none := by kernel_rfl
theorem laidOut : laidOutB Try.prog = true := factLaid
set_option maxRecDepth 100000 in
theorem lifted (os : Os) (started : os.Started) (H : Type) (enc : TypeId × Value → H) :
    ReturnsInHanded {} Try.checked os 17 .any (Rows.trailPlaysSpec.pre6 enc Try.prog Try.f17 Rows.trailPlaysRow.domain false) (Rows.trailPlaysSpec.post enc Try.prog Try.f17 false true false false) := by
  refine returnsInHanded_of_change (C := Try.checked) own started (by kernel_rfl) Try.func17
    (ChangeSpec.witness6 (enc := enc) (C := Try.checked) false ⟨#[], #[.int .i64 0, .slice none 0 0], []⟩ 8 (by kernel_rfl) (by kernel_rfl) (by kernel_rfl) (by kernel_rfl)) ?_
  intro W base args ds gs before hval0 hW hcnd _
  have hval : ∀ (j : Nat) t v, Try.f17.params[j]? = some t → args[j]? = some v → Value.okWide Try.prog W .any base t v := hval0
  have hW' := hW
  obtain ⟨p, q, hA0, hV, rfl, hfz, hnd⟩ := hW
  have hA : DataW.TrodAll enc Try.prog W 0 (fun _ => true) true Try.f17.params.toList args.toList ds p := hA0
  rw [Try.params17] at hA hval
  obtain ⟨v0, vs0, d0, ds0, p0, q0, hargs, rfl, rfl, h0, r0⟩ := trodAll_cons hA
  obtain ⟨v1, vs1, d1, ds1, p1, q1, rfl, rfl, rfl, h1, r1⟩ := trodAll_cons r0
  obtain ⟨rfl, rfl, rfl⟩ := trodAll_nil r1
  obtain rfl : args = #[v0, v1] := by cases args; simp_all
  obtain ⟨rfl, rfl⟩ := trodVars_none hV
  have k0 := h0
  have lt0 : ∀ x ∈ p0, x.block < W.heap.size := by obtain ⟨m, hm⟩ := k0; exact DataW.trod_lt m _ _ _ hm
  have k1 := h1
  have lt1 : ∀ x ∈ p1, x.block < W.heap.size := by obtain ⟨m, hm⟩ := k1; exact DataW.trod_lt m _ _ _ hm
  obtain ⟨n0, rfl, rfl, rfl, w0⟩ := open_int Try.underlying3 (hval 0 3 v0 rfl rfl) h0
  obtain ⟨a1, l1, cap1, rfl, hl1, hm1, hna1, R1, w1⟩ := row_of (s := 3) (reads_triple' (s0 := 1) (s1 := 1) (s2 := 1) Try.underlying89 (reads_int Try.underlying3) (reads_int Try.underlying3) (reads_int Try.underlying3) (by kernel_rfl) rfl rfl rfl (by kernel_rfl) (by kernel_rfl) (by kernel_rfl)) (by kernel_rfl) Try.underlying85 (fun _ => rfl) (by decide) (hval 1 85 v1 rfl rfl) h1
  clear hA0 hval0
  refine (Spec.law (law_TrailPlays n0 a1 cap1 l1 W R1 hl1 (fun x hx => wf_i64 (w1 x hx).2.1))).mono fun e W' ⟨he, bel⟩ => ?_
  subst he
  exact ⟨_, rfl, _, _, _, [], _, [], hW', trodAll_mk1 (shut_bool Try.underlying4 _), (trodAll_cons_mk (Below.trod laidOut (by kernel_rfl) (of_decide_eq_true (by kernel_rfl)) k0 bel lt0) (trodAll_cons_mk (Below.trod laidOut (by kernel_rfl) (of_decide_eq_true (by kernel_rfl)) k1 bel lt1) trodAll_mk0)), rfl, bel.frame _, fun h => by cases h⟩
theorem j0 : (Rows.trailPlaysRow.wf (OpenSpec.ofChange Rows.trailPlaysSpec)) = true := by kernel_rfl
theorem j3 : (Try.f17.params.all (Try.prog.readableRec ·)) = true := by kernel_rfl
theorem j4 : (namedTie Try.prog Rows.trailPlaysRow.named Rows.trailPlaysSpec.vars) = true := by kernel_rfl
theorem j5 : ((Rows.trailPlaysRow.stops == [])) = true := by kernel_rfl
theorem j7 : ((Rows.trailPlaysRow.knobs == [])) = true := by kernel_rfl
theorem j9 : ((Rows.trailPlaysRow.inPlace == Try.prog.inPlace 17)) = true := by kernel_rfl
theorem j10 : ((Rows.trailPlaysRow.unfollowed == Try.prog.unfollowed 17)) = true := by kernel_rfl
theorem j11 : ((Rows.trailPlaysRow.recurses == Try.prog.recurses 17)) = true := by kernel_rfl
theorem j12 : ((Rows.trailPlaysRow.named == Try.prog.varsNamed 17)) = true := by kernel_rfl
theorem j13 : ((Rows.trailPlaysRow.maps == (Try.f17.params.toList ++ Rows.trailPlaysSpec.plain.varTypes Try.prog).any (Try.prog.mapsRec ·))) = true := by kernel_rfl
theorem j14 : ((Rows.trailPlaysRow.ifaces == (Try.f17.params.toList ++ Rows.trailPlaysSpec.plain.varTypes Try.prog).any (Try.prog.ifacesRec ·))) = true := by kernel_rfl
theorem j15 : ((Rows.trailPlaysRow.mapsOut == Try.prog.mapsAmong Try.f17.resultTypes.toList)) = true := by kernel_rfl
theorem j16 : ((Rows.trailPlaysRow.loops == (Try.f17.params.toList ++ Rows.trailPlaysSpec.plain.varTypes Try.prog).any (Try.prog.loopsFrom ·))) = true := by kernel_rfl
theorem j17 : ((Rows.trailPlaysRow.wideKeys == (Try.f17.params.toList ++ Rows.trailPlaysSpec.plain.varTypes Try.prog ++ Try.f17.resultTypes.toList).any (Try.prog.wideKeysFrom ·))) = true := by kernel_rfl
theorem j18 : (Rows.trailPlaysSpec.vars.all (Try.prog.varReadable ·)) = true := by kernel_rfl
theorem j19 : (Try.f17.resultTypes.all (fun t => Try.prog.readableRec t && decide (t < Try.prog.types.size))) = true := by kernel_rfl
theorem j20 : ((Rows.trailPlaysRow.ifacesOut == Try.f17.resultTypes.toList.any (Try.prog.ifacesRec ·))) = true := by kernel_rfl
theorem j21 : ((Rows.trailPlaysRow.loopsOut == Try.f17.resultTypes.toList.any (Try.prog.loopsFrom ·))) = true := by kernel_rfl
theorem j22 : ((Rows.trailPlaysRow.plainKeys == Try.prog.plainKeys)) = true := by rw [show Rows.trailPlaysRow.plainKeys = Rows.triWordsRow.plainKeys by kernel_rfl]; exact factKeys
theorem j23 : (Rows.trailPlaysRow.shortTexts.isNone) = true := by kernel_rfl
theorem j26 : ((Rows.trailPlaysRow.lifted == Try.prog.liftsFinal)) = true := by rw [show Rows.trailPlaysRow.lifted = Rows.triWordsRow.lifted by kernel_rfl]; exact factLifts
theorem j27 : ((Try.prog.make == some Rows.trailPlaysRow.make)) = true := by rw [show Rows.trailPlaysRow.make = Rows.triWordsRow.make by kernel_rfl]; exact factMake
theorem j28 : ((Rows.trailPlaysRow.kinds == (if Rows.trailPlaysRow.domain.isEmpty then [] else Try.f17.params.toList.map fun t => match Try.prog.underlying t with | some (.int k) => some k | _ => none))) = true := by kernel_rfl
theorem j29 : ((Rows.trailPlaysRow.pinned == Rows.trailPlaysRow.pinnedBy)) = true := by kernel_rfl
theorem j30 : ((Rows.trailPlaysRow.veiled == (Try.f17.params.toList ++ Rows.trailPlaysSpec.plain.varTypes Try.prog ++ Try.f17.resultTypes.toList).any (Try.prog.veiledRec ·))) = true := by kernel_rfl
theorem j31 : (Rows.trailPlaysRow.veiledFits Try.prog Try.f17.params.toList (Try.f17.params.toList ++ Rows.trailPlaysSpec.plain.varTypes Try.prog ++ Try.f17.resultTypes.toList)) = true := by kernel_rfl
set_option maxRecDepth 100000 in
theorem closed : joinedFacts Try.checked.prog 17 Try.f17 Rows.trailPlaysSpec Rows.trailPlaysRow = true := by unfold joinedFacts; exact (band (band (band (band (band (band (band (band (band (band (band (band (band (band (band (band (band (band (band (band (band (band (band (band (band (band (band (band (band (band (band j0 factLaid) factMaps) j3) j4) j5) factStops) j7) factKnobs) j9) j10) j11) j12) j13) j14) j15) j16) j17) j18) j19) j20) j21) j22) j23) factHeard) factEnter) j26) j27) j28) j29) j30) j31)
theorem named : Try.checked.prog.funcNamed Rows.trailPlaysRow.func = some 17 := by kernel_rfl
theorem over : Rows.trailPlaysRow.holds Try.pinned (OpenSpec.ofChange Rows.trailPlaysSpec) :=
  OpenClaim.holds_of_wide 17 Try.f17 rfl rfl rfl rfl rfl rfl rfl ⟨rfl, rfl, rfl, rfl, rfl⟩ rfl rfl rfl rfl rfl named Try.func17 closed
    (of_decide_eq_true (by kernel_rfl)) (by unfold Func.isWrapper; first | (rw [if_pos (by decide +kernel)]; kernel_rfl) | (rw [if_neg (by decide +kernel)]; exact ⟨rfl, rfl⟩))
    (fun os started H enc _ => lifted os started H enc)
/-- The statement. -/
theorem proved : Rows.TrailPlaysSaid := over
end trailPlays
end Go.Proofs.Ytnbmhibhnfmdeaa
