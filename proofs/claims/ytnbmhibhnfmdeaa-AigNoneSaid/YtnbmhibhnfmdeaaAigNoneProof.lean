/- AigNone: a nil store tells nothing. No conditions. -/
import Derived.Test.YtnbmhibhnfmdeaaFacts
import Derived.Test.YtnbmhibhnfmdeaaAigNone
import Derived.Test.YtnbmhibhnfmdeaaLtLift
import Derived.Lib.SmallJoins
namespace Go.Proofs.Ytnbmhibhnfmdeaa
open Go Go.Lt Go.ChangeShapes Go.WideShapes Go.ChangeAt Go.RowKit
set_option linter.unusedVariables false
set_option linter.unusedSimpArgs false
open Go.ChangeMaps (open_string shut_string)
namespace aigNone
theorem own : ownKnob Try.prog.godebug = none := by kernel_rfl
theorem laidOut : laidOutB Try.prog = true := factLaid
set_option maxRecDepth 100000 in
theorem lifted (os : Os) (started : os.Started) (H : Type) (enc : TypeId × Value → H) :
    ReturnsInHanded {} Try.checked os 21 .any (Rows.aigNoneSpec.pre6 enc Try.prog Try.f21 Rows.aigNoneRow.domain false) (Rows.aigNoneSpec.post enc Try.prog Try.f21 false true false false) := by
  refine returnsInHanded_of_change (C := Try.checked) own started (by kernel_rfl) Try.func21
    (ChangeSpec.witness6 (enc := enc) (C := Try.checked) false ⟨#[], #[.int .i64 0, .int .i64 0, .slice none 0 0], []⟩ 8 (by kernel_rfl) (by kernel_rfl) (by kernel_rfl) (by kernel_rfl)) ?_
  intro W base args ds gs before hval0 hW hcnd _
  have hval : ∀ (j : Nat) t v, Try.f21.params[j]? = some t → args[j]? = some v → Value.okWide Try.prog W .any base t v := hval0
  have hW' := hW
  obtain ⟨p, q, hA0, hV, rfl, hfz, hnd⟩ := hW
  have hA : DataW.TrodAll enc Try.prog W 0 (fun _ => true) true Try.f21.params.toList args.toList ds p := hA0
  rw [Try.params21] at hA hval
  obtain ⟨v0, vs0, d0, ds0, p0, q0, hargs, rfl, rfl, h0, r0⟩ := trodAll_cons hA
  obtain ⟨v1, vs1, d1, ds1, p1, q1, rfl, rfl, rfl, h1, r1⟩ := trodAll_cons r0
  obtain ⟨v2, vs2, d2, ds2, p2, q2, rfl, rfl, rfl, h2, r2⟩ := trodAll_cons r1
  obtain ⟨rfl, rfl, rfl⟩ := trodAll_nil r2
  obtain rfl : args = #[v0, v1, v2] := by cases args; simp_all
  obtain ⟨rfl, rfl⟩ := trodVars_none hV
  have k0 := h0
  have lt0 : ∀ x ∈ p0, x.block < W.heap.size := by obtain ⟨m, hm⟩ := k0; exact DataW.trod_lt m _ _ _ hm
  have k1 := h1
  have lt1 : ∀ x ∈ p1, x.block < W.heap.size := by obtain ⟨m, hm⟩ := k1; exact DataW.trod_lt m _ _ _ hm
  have k2 := h2
  have lt2 : ∀ x ∈ p2, x.block < W.heap.size := by obtain ⟨m, hm⟩ := k2; exact DataW.trod_lt m _ _ _ hm
  obtain ⟨n0, rfl, rfl, rfl, w0⟩ := open_int Try.underlying3 (hval 0 3 v0 rfl rfl) h0
  obtain ⟨n1, rfl, rfl, rfl, w1⟩ := open_int Try.underlying3 (hval 1 3 v1 rfl rfl) h1
  obtain ⟨a2, l2, cap2, rfl, hl2, hm2, hna2, R2, w2⟩ := row_of (s := 2) (reads_pair' (s0 := 1) (s1 := 1) Try.underlying65 (reads_int Try.underlying3) (reads_int Try.underlying3) (by kernel_rfl) rfl rfl (by kernel_rfl) (by kernel_rfl)) (by kernel_rfl) Try.underlying34 (fun _ => rfl) (by decide) (hval 2 34 v2 rfl rfl) h2
  clear hA0 hval0
  refine (Spec.law (law_AigNone n0 n1 a2 cap2 l2 W R2 (wf_i64 w0).2 (wf_i64 w1).2)).mono fun e W' ⟨he, bel⟩ => ?_
  subst he
  exact ⟨_, rfl, _, _, _, [], _, [], hW', trodAll_mk1 (shut_bool Try.underlying4 _), (trodAll_cons_mk (Below.trod laidOut (by kernel_rfl) (of_decide_eq_true (by kernel_rfl)) k0 bel lt0) (trodAll_cons_mk (Below.trod laidOut (by kernel_rfl) (of_decide_eq_true (by kernel_rfl)) k1 bel lt1) (trodAll_cons_mk (Below.trod laidOut (by kernel_rfl) (of_decide_eq_true (by kernel_rfl)) k2 bel lt2) trodAll_mk0))), rfl, bel.frame _, fun h => by cases h⟩
theorem j0 : (Rows.aigNoneRow.wf (OpenSpec.ofChange Rows.aigNoneSpec)) = true := by kernel_rfl
theorem j3 : (Try.f21.params.all (Try.prog.readableRec ·)) = true := by kernel_rfl
theorem j4 : (namedTie Try.prog Rows.aigNoneRow.named Rows.aigNoneSpec.vars) = true := by kernel_rfl
theorem j5 : ((Rows.aigNoneRow.stops == [])) = true := by kernel_rfl
theorem j7 : ((Rows.aigNoneRow.knobs == [])) = true := by kernel_rfl
theorem j9 : ((Rows.aigNoneRow.inPlace == Try.prog.inPlace 21)) = true := by kernel_rfl
theorem j10 : ((Rows.aigNoneRow.unfollowed == Try.prog.unfollowed 21)) = true := by kernel_rfl
theorem j11 : ((Rows.aigNoneRow.recurses == Try.prog.recurses 21)) = true := by kernel_rfl
theorem j12 : ((Rows.aigNoneRow.named == Try.prog.varsNamed 21)) = true := by kernel_rfl
theorem j13 : ((Rows.aigNoneRow.maps == (Try.f21.params.toList ++ Rows.aigNoneSpec.plain.varTypes Try.prog).any (Try.prog.mapsRec ·))) = true := by kernel_rfl
theorem j14 : ((Rows.aigNoneRow.ifaces == (Try.f21.params.toList ++ Rows.aigNoneSpec.plain.varTypes Try.prog).any (Try.prog.ifacesRec ·))) = true := by kernel_rfl
theorem j15 : ((Rows.aigNoneRow.mapsOut == Try.prog.mapsAmong Try.f21.resultTypes.toList)) = true := by kernel_rfl
theorem j16 : ((Rows.aigNoneRow.loops == (Try.f21.params.toList ++ Rows.aigNoneSpec.plain.varTypes Try.prog).any (Try.prog.loopsFrom ·))) = true := by kernel_rfl
theorem j17 : ((Rows.aigNoneRow.wideKeys == (Try.f21.params.toList ++ Rows.aigNoneSpec.plain.varTypes Try.prog ++ Try.f21.resultTypes.toList).any (Try.prog.wideKeysFrom ·))) = true := by kernel_rfl
theorem j18 : (Rows.aigNoneSpec.vars.all (Try.prog.varReadable ·)) = true := by kernel_rfl
theorem j19 : (Try.f21.resultTypes.all (fun t => Try.prog.readableRec t && decide (t < Try.prog.types.size))) = true := by kernel_rfl
theorem j20 : ((Rows.aigNoneRow.ifacesOut == Try.f21.resultTypes.toList.any (Try.prog.ifacesRec ·))) = true := by kernel_rfl
theorem j21 : ((Rows.aigNoneRow.loopsOut == Try.f21.resultTypes.toList.any (Try.prog.loopsFrom ·))) = true := by kernel_rfl
theorem j22 : ((Rows.aigNoneRow.plainKeys == Try.prog.plainKeys)) = true := by rw [show Rows.aigNoneRow.plainKeys = Rows.triWordsRow.plainKeys by kernel_rfl]; exact factKeys
theorem j23 : (Rows.aigNoneRow.shortTexts.isNone) = true := by kernel_rfl
theorem j26 : ((Rows.aigNoneRow.lifted == Try.prog.liftsFinal)) = true := by rw [show Rows.aigNoneRow.lifted = Rows.triWordsRow.lifted by kernel_rfl]; exact factLifts
theorem j27 : ((Try.prog.make == some Rows.aigNoneRow.make)) = true := by rw [show Rows.aigNoneRow.make = Rows.triWordsRow.make by kernel_rfl]; exact factMake
theorem j28 : ((Rows.aigNoneRow.kinds == (if Rows.aigNoneRow.domain.isEmpty then [] else Try.f21.params.toList.map fun t => match Try.prog.underlying t with | some (.int k) => some k | _ => none))) = true := by kernel_rfl
theorem j29 : ((Rows.aigNoneRow.pinned == Rows.aigNoneRow.pinnedBy)) = true := by kernel_rfl
theorem j30 : ((Rows.aigNoneRow.veiled == (Try.f21.params.toList ++ Rows.aigNoneSpec.plain.varTypes Try.prog ++ Try.f21.resultTypes.toList).any (Try.prog.veiledRec ·))) = true := by kernel_rfl
theorem j31 : (Rows.aigNoneRow.veiledFits Try.prog Try.f21.params.toList (Try.f21.params.toList ++ Rows.aigNoneSpec.plain.varTypes Try.prog ++ Try.f21.resultTypes.toList)) = true := by kernel_rfl
set_option maxRecDepth 100000 in
theorem closed : joinedFacts Try.checked.prog 21 Try.f21 Rows.aigNoneSpec Rows.aigNoneRow = true := by unfold joinedFacts; exact (band (band (band (band (band (band (band (band (band (band (band (band (band (band (band (band (band (band (band (band (band (band (band (band (band (band (band (band (band (band (band j0 factLaid) factMaps) j3) j4) j5) factStops) j7) factKnobs) j9) j10) j11) j12) j13) j14) j15) j16) j17) j18) j19) j20) j21) j22) j23) factHeard) factEnter) j26) j27) j28) j29) j30) j31)
theorem named : Try.checked.prog.funcNamed Rows.aigNoneRow.func = some 21 := by kernel_rfl
theorem over : Rows.aigNoneRow.holds Try.pinned (OpenSpec.ofChange Rows.aigNoneSpec) :=
  OpenClaim.holds_of_wide 21 Try.f21 rfl rfl rfl rfl rfl rfl rfl ⟨rfl, rfl, rfl, rfl, rfl⟩ rfl rfl rfl rfl rfl named Try.func21 closed
    (of_decide_eq_true (by kernel_rfl)) (by unfold Func.isWrapper; first | (rw [if_pos (by decide +kernel)]; kernel_rfl) | (rw [if_neg (by decide +kernel)]; exact ⟨rfl, rfl⟩))
    (fun os started H enc _ => lifted os started H enc)
/-- The statement. -/
theorem proved : Rows.AigNoneSaid := over
end aigNone
end Go.Proofs.Ytnbmhibhnfmdeaa
