/- FsimDetects: by which inputs any fault of a good net is shown, once and 64 times at once, is the reference's. No conditions. -/
import Derived.Test.YtfkdlepemiepdaaFacts
import Derived.Test.YtfkdlepemiepdaaFault6
import Derived.Test.YtfkdlepemiepdaaLtLift
import Derived.Lib.SmallJoins
namespace Go.Proofs.Ytfkdlepemiepdaa
open Go Go.Lt Go.ChangeShapes Go.WideShapes Go.ChangeAt Go.RowKit
set_option linter.unusedVariables false
set_option linter.unusedSimpArgs false
open Go.ChangeMaps (open_string shut_string)
namespace fsimDetects
theorem own : ownKnob Try.prog.godebug = none := by kernel_rfl
theorem laidOut : laidOutB Try.prog = true := factLaid
set_option maxRecDepth 100000 in
theorem lifted (os : Os) (started : os.Started) (H : Type) (enc : TypeId × Value → H) :
    ReturnsInHanded {} Try.checked os 7 .any (Rows.fsimDetectsSpec.pre6 enc Try.prog Try.f7 Rows.fsimDetectsRow.domain false) (Rows.fsimDetectsSpec.post enc Try.prog Try.f7 false true false false) := by
  refine returnsInHanded_of_change (C := Try.checked) own started (by kernel_rfl) Try.func7
    (ChangeSpec.witness6 (enc := enc) (C := Try.checked) false ⟨#[], #[.slice none 0 0, .slice none 0 0, .agg #[.int .i64 0, .int .i64 0, .bool false], .slice none 0 0, .slice none 0 0], []⟩ 8 (by kernel_rfl) (by kernel_rfl) (by kernel_rfl) (by kernel_rfl)) ?_
  intro W base args ds gs before hval0 hW hcnd _
  have hval : ∀ (j : Nat) t v, Try.f7.params[j]? = some t → args[j]? = some v → Value.okWide Try.prog W .any base t v := hval0
  have hW' := hW
  obtain ⟨p, q, hA0, hV, rfl, hfz, hnd⟩ := hW
  have hA : DataW.TrodAll enc Try.prog W 0 (fun _ => true) true Try.f7.params.toList args.toList ds p := hA0
  rw [Try.params7] at hA hval
  obtain ⟨v0, vs0, d0, ds0, p0, q0, hargs, rfl, rfl, h0, r0⟩ := trodAll_cons hA
  obtain ⟨v1, vs1, d1, ds1, p1, q1, rfl, rfl, rfl, h1, r1⟩ := trodAll_cons r0
  obtain ⟨v2, vs2, d2, ds2, p2, q2, rfl, rfl, rfl, h2, r2⟩ := trodAll_cons r1
  obtain ⟨v3, vs3, d3, ds3, p3, q3, rfl, rfl, rfl, h3, r3⟩ := trodAll_cons r2
  obtain ⟨v4, vs4, d4, ds4, p4, q4, rfl, rfl, rfl, h4, r4⟩ := trodAll_cons r3
  obtain ⟨rfl, rfl, rfl⟩ := trodAll_nil r4
  obtain rfl : args = #[v0, v1, v2, v3, v4] := by cases args; simp_all
  obtain ⟨rfl, rfl⟩ := trodVars_none hV
  have k0 := h0
  have lt0 : ∀ x ∈ p0, x.block < W.heap.size := by obtain ⟨m, hm⟩ := k0; exact DataW.trod_lt m _ _ _ hm
  have k1 := h1
  have lt1 : ∀ x ∈ p1, x.block < W.heap.size := by obtain ⟨m, hm⟩ := k1; exact DataW.trod_lt m _ _ _ hm
  have k2 := h2
  have lt2 : ∀ x ∈ p2, x.block < W.heap.size := by obtain ⟨m, hm⟩ := k2; exact DataW.trod_lt m _ _ _ hm
  have k3 := h3
  have lt3 : ∀ x ∈ p3, x.block < W.heap.size := by obtain ⟨m, hm⟩ := k3; exact DataW.trod_lt m _ _ _ hm
  have k4 := h4
  have lt4 : ∀ x ∈ p4, x.block < W.heap.size := by obtain ⟨m, hm⟩ := k4; exact DataW.trod_lt m _ _ _ hm
  obtain ⟨a0, l0, cap0, rfl, hl0, hm0, hna0, R0, w0⟩ := row_of (s := 2) (reads_pair' (s0 := 1) (s1 := 1) Try.underlying35 (reads_int Try.underlying3) (reads_int Try.underlying3) (by kernel_rfl) rfl rfl (by kernel_rfl) (by kernel_rfl)) (by kernel_rfl) Try.underlying22 (fun _ => rfl) (by decide) (hval 0 22 v0 rfl rfl) h0
  obtain ⟨a1, l1, cap1, rfl, hl1, hm1, hna1, R1, w1⟩ := row_of (s := 1) (reads_int Try.underlying3) (by kernel_rfl) Try.underlying23 (fun _ => rfl) (by decide) (hval 1 23 v1 rfl rfl) h1
  obtain ⟨c2a, c2b, c2c, y2a, y2b, y2c, m2, rfl, rfl, rfl, z2a, z2b, z2c⟩ := Go.Joins.open_agg3 Try.underlying54 (by kernel_rfl) (by kernel_rfl) (hval 2 54 v2 rfl rfl) h2
  obtain ⟨n2a, e2a, rfl, w2a⟩ := DataW.trod_int Try.underlying3 z2a
  simp only [List.cons.injEq, and_true] at e2a
  subst e2a
  obtain ⟨n2b, e2b, rfl, w2b⟩ := DataW.trod_int Try.underlying3 z2b
  simp only [List.cons.injEq, and_true] at e2b
  subst e2b
  obtain ⟨n2c, e2c, rfl⟩ := DataW.trod_bool Try.underlying4 z2c
  simp only [List.cons.injEq, and_true] at e2c
  subst e2c
  obtain ⟨a3, l3, cap3, rfl, hl3, hm3, hna3, R3, w3⟩ := row_of (s := 1) (reads_bool Try.underlying4) (by kernel_rfl) Try.underlying39 (fun _ => rfl) (by decide) (hval 3 39 v3 rfl rfl) h3
  obtain ⟨a4, l4, cap4, rfl, hl4, hm4, hna4, R4, w4⟩ := row_of (s := 1) (reads_u64 Try.underlying45) (by kernel_rfl) Try.underlying51 (fun _ => rfl) (by decide) (hval 4 51 v4 rfl rfl) h4
  clear hA0 hval0
  refine (Spec.law (law_FsimDetects a0 a1 a3 a4 cap0 cap1 cap3 cap4 l0 l1 n2a n2b n2c l3 l4 W R0 R1 R3 R4 hna0 hna1 hna3 hna4 (wf_i64 w2a))).mono fun e W' ⟨he, bel⟩ => ?_
  subst he
  exact ⟨_, rfl, _, _, _, [], _, [], hW', trodAll_mk1 (shut_bool Try.underlying4 _), (trodAll_cons_mk (Below.trod laidOut (by kernel_rfl) (of_decide_eq_true (by kernel_rfl)) k0 bel lt0) (trodAll_cons_mk (Below.trod laidOut (by kernel_rfl) (of_decide_eq_true (by kernel_rfl)) k1 bel lt1) (trodAll_cons_mk (Below.trod laidOut (by kernel_rfl) (of_decide_eq_true (by kernel_rfl)) k2 bel lt2) (trodAll_cons_mk (Below.trod laidOut (by kernel_rfl) (of_decide_eq_true (by kernel_rfl)) k3 bel lt3) (trodAll_cons_mk (Below.trod laidOut (by kernel_rfl) (of_decide_eq_true (by kernel_rfl)) k4 bel lt4) trodAll_mk0))))), rfl, bel.frame _, fun h => by cases h⟩
theorem j0 : (Rows.fsimDetectsRow.wf (OpenSpec.ofChange Rows.fsimDetectsSpec)) = true := by kernel_rfl
theorem j3 : (Try.f7.params.all (Try.prog.readableRec ·)) = true := by kernel_rfl
theorem j4 : (namedTie Try.prog Rows.fsimDetectsRow.named Rows.fsimDetectsSpec.vars) = true := by kernel_rfl
theorem j5 : ((Rows.fsimDetectsRow.stops == [])) = true := by kernel_rfl
theorem j7 : ((Rows.fsimDetectsRow.knobs == [])) = true := by kernel_rfl
theorem j9 : ((Rows.fsimDetectsRow.inPlace == Try.prog.inPlace 7)) = true := by kernel_rfl
theorem j10 : ((Rows.fsimDetectsRow.unfollowed == Try.prog.unfollowed 7)) = true := by kernel_rfl
theorem j11 : ((Rows.fsimDetectsRow.recurses == Try.prog.recurses 7)) = true := by kernel_rfl
theorem j12 : ((Rows.fsimDetectsRow.named == Try.prog.varsNamed 7)) = true := by kernel_rfl
theorem j13 : ((Rows.fsimDetectsRow.maps == (Try.f7.params.toList ++ Rows.fsimDetectsSpec.plain.varTypes Try.prog).any (Try.prog.mapsRec ·))) = true := by kernel_rfl
theorem j14 : ((Rows.fsimDetectsRow.ifaces == (Try.f7.params.toList ++ Rows.fsimDetectsSpec.plain.varTypes Try.prog).any (Try.prog.ifacesRec ·))) = true := by kernel_rfl
theorem j15 : ((Rows.fsimDetectsRow.mapsOut == Try.prog.mapsAmong Try.f7.resultTypes.toList)) = true := by kernel_rfl
theorem j16 : ((Rows.fsimDetectsRow.loops == (Try.f7.params.toList ++ Rows.fsimDetectsSpec.plain.varTypes Try.prog).any (Try.prog.loopsFrom ·))) = true := by kernel_rfl
theorem j17 : ((Rows.fsimDetectsRow.wideKeys == (Try.f7.params.toList ++ Rows.fsimDetectsSpec.plain.varTypes Try.prog ++ Try.f7.resultTypes.toList).any (Try.prog.wideKeysFrom ·))) = true := by kernel_rfl
theorem j18 : (Rows.fsimDetectsSpec.vars.all (Try.prog.varReadable ·)) = true := by kernel_rfl
theorem j19 : (Try.f7.resultTypes.all (fun t => Try.prog.readableRec t && decide (t < Try.prog.types.size))) = true := by kernel_rfl
theorem j20 : ((Rows.fsimDetectsRow.ifacesOut == Try.f7.resultTypes.toList.any (Try.prog.ifacesRec ·))) = true := by kernel_rfl
theorem j21 : ((Rows.fsimDetectsRow.loopsOut == Try.f7.resultTypes.toList.any (Try.prog.loopsFrom ·))) = true := by kernel_rfl
theorem j22 : ((Rows.fsimDetectsRow.plainKeys == Try.prog.plainKeys)) = true := by rw [show Rows.fsimDetectsRow.plainKeys = Rows.frontTellsRow.plainKeys by kernel_rfl]; exact factKeys
theorem j23 : (Rows.fsimDetectsRow.shortTexts.isNone) = true := by kernel_rfl
theorem j26 : ((Rows.fsimDetectsRow.lifted == Try.prog.liftsFinal)) = true := by rw [show Rows.fsimDetectsRow.lifted = Rows.frontTellsRow.lifted by kernel_rfl]; exact factLifts
theorem j27 : ((Try.prog.make == some Rows.fsimDetectsRow.make)) = true := by rw [show Rows.fsimDetectsRow.make = Rows.frontTellsRow.make by kernel_rfl]; exact factMake
theorem j28 : ((Rows.fsimDetectsRow.kinds == (if Rows.fsimDetectsRow.domain.isEmpty then [] else Try.f7.params.toList.map fun t => match Try.prog.underlying t with | some (.int k) => some k | _ => none))) = true := by kernel_rfl
theorem j29 : ((Rows.fsimDetectsRow.pinned == Rows.fsimDetectsRow.pinnedBy)) = true := by kernel_rfl
theorem j30 : ((Rows.fsimDetectsRow.veiled == (Try.f7.params.toList ++ Rows.fsimDetectsSpec.plain.varTypes Try.prog ++ Try.f7.resultTypes.toList).any (Try.prog.veiledRec ·))) = true := by kernel_rfl
theorem j31 : (Rows.fsimDetectsRow.veiledFits Try.prog Try.f7.params.toList (Try.f7.params.toList ++ Rows.fsimDetectsSpec.plain.varTypes Try.prog ++ Try.f7.resultTypes.toList)) = true := by kernel_rfl
set_option maxRecDepth 100000 in
theorem closed : joinedFacts Try.checked.prog 7 Try.f7 Rows.fsimDetectsSpec Rows.fsimDetectsRow = true := by unfold joinedFacts; exact (band (band (band (band (band (band (band (band (band (band (band (band (band (band (band (band (band (band (band (band (band (band (band (band (band (band (band (band (band (band (band j0 factLaid) factMaps) j3) j4) j5) factStops) j7) factKnobs) j9) j10) j11) j12) j13) j14) j15) j16) j17) j18) j19) j20) j21) j22) j23) factHeard) factEnter) j26) j27) j28) j29) j30) j31)
theorem named : Try.checked.prog.funcNamed Rows.fsimDetectsRow.func = some 7 := by kernel_rfl
theorem over : Rows.fsimDetectsRow.holds Try.pinned (OpenSpec.ofChange Rows.fsimDetectsSpec) :=
  OpenClaim.holds_of_wide 7 Try.f7 rfl rfl rfl rfl rfl rfl rfl ⟨rfl, rfl, rfl, rfl, rfl⟩ rfl rfl rfl rfl rfl named Try.func7 closed
    (of_decide_eq_true (by kernel_rfl)) (by unfold Func.isWrapper; first | (rw [if_pos (by decide +kernel)]; kernel_rfl) | (rw [if_neg (by decide +kernel)]; exact ⟨rfl, rfl⟩))
    (fun os started H enc _ => lifted os started H enc)
/-- The statement. -/
theorem proved : Rows.FsimDetectsSaid := over
end fsimDetects
end Go.Proofs.Ytfkdlepemiepdaa
