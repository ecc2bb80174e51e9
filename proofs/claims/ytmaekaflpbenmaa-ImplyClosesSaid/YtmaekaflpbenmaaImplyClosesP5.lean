/- ImplyCloses: all that a good net and any clauses say of literals, or that one is wrong, in whatever order. No conditions. -/
import Derived.Test.YtmaekaflpbenmaaRows
import Derived.Lib.SmallJoins
import Derived.KernelRfl
import Derived.WalkKit
import Derived.ProofKit
import Derived.Deep.Quiet
import Derived.Deep.LoopGhost
import Derived.StillTail
import Derived.Test.YtmaekaflpbenmaaProg
import Derived.OpenShut
import Derived.ShutString
import Derived.ChangeOld
import Derived.Deep.Slices
import Derived.SizedLaws
import Derived.Laws.StructEq
import Derived.Laws.Externs
import Derived.MapKept
import Derived.Test.YtmaekaflpbenmaaImplyClosesP4
namespace Go.Proofs.Ytmaekaflpbenmaa
open Go Go.Lt Go.ChangeShapes Go.WideShapes Go.ChangeAt Go.RowKit
set_option linter.unusedVariables false
set_option linter.unusedSimpArgs false
open Go.ChangeMaps (open_string shut_string)
namespace implyCloses
theorem own : ownKnob Try.prog.godebug = none := by kernel_rfl
theorem laidOut : laidOutB Try.prog = true := factLaid
set_option maxRecDepth 100000 in
theorem lifted (os : Os) (started : os.Started) (H : Type) (enc : TypeId × Value → H) :
    ReturnsInHanded {} Try.checked os 8 .any (Rows.implyClosesSpec.pre6 enc Try.prog Try.f8 Rows.implyClosesRow.domain false) (Rows.implyClosesSpec.post enc Try.prog Try.f8 false true false false) := by
  refine returnsInHanded_of_change (C := Try.checked) own started (by kernel_rfl) Try.func8
    (ChangeSpec.witness6 (enc := enc) (C := Try.checked) false ⟨#[], #[.slice none 0 0, .slice none 0 0, .slice none 0 0], []⟩ 8 (by kernel_rfl) (by kernel_rfl) (by kernel_rfl) (by kernel_rfl)) ?_
  intro W base args ds gs before hval0 hW hcnd _
  have hval : ∀ (j : Nat) t v, Try.f8.params[j]? = some t → args[j]? = some v → Value.okWide Try.prog W .any base t v := hval0
  have hW' := hW
  obtain ⟨p, q, hA0, hV, rfl, hfz, hnd⟩ := hW
  have hA : DataW.TrodAll enc Try.prog W 0 (fun _ => true) true Try.f8.params.toList args.toList ds p := hA0
  rw [Try.params8] at hA hval
  obtain ⟨v0, vs0, d0, ds0, p0, q0, hargs, rfl, rfl, h0, r0⟩ := trodAll_cons hA
  obtain ⟨v1, vs1, d1, ds1, p1, q1, rfl, rfl, rfl, h1, r1⟩ := trodAll_cons r0
  obtain ⟨v2, vs2, d2, ds2, p2, q2, rfl, rfl, rfl, h2, r2⟩ := trodAll_cons r1
  obtain ⟨rfl, rfl, rfl⟩ := trodAll_nil r2
  obtain rfl : args = #[v0, v1, v2] := by cases args; simp_all
  obtain ⟨rfl, rfl⟩ := trodVars_none hV
  have k0 := h0
  have lt0 : ∀ x ∈ p0, x.block < W.heap.size := by obtain ⟨m, hm⟩ := k0; exact DataW.trod_lt m _ _ _ hm
  have k1 := h1
  have lt1 : ∀ x ∈ p1, x.block < W.heap.size := by obtain ⟨m, hm⟩ := k1; exact DataW.trod_lt m _ _ _ hm
  have k2 := h2
  have lt2 : ∀ x ∈ p2, x.block < W.heap.size := by obtain ⟨m, hm⟩ := k2; exact DataW.trod_lt m _ _ _ hm
  obtain ⟨a0, l0, cap0, rfl, hl0, hm0, hna0, R0, w0⟩ := row_of (s := 2) (reads_pair' (s0 := 1) (s1 := 1) Try.underlying56 (reads_int Try.underlying3) (reads_int Try.underlying3) (by kernel_rfl) rfl rfl (by kernel_rfl) (by kernel_rfl)) (by kernel_rfl) Try.underlying22 (fun _ => rfl) (by decide) (hval 0 22 v0 rfl rfl) h0
  obtain ⟨a1, l1, cap1, rfl, hl1, hm1, hna1, R1, w1⟩ := row_of (s := 1) (reads_int Try.underlying3) (by kernel_rfl) Try.underlying23 (fun _ => rfl) (by decide) (hval 1 23 v1 rfl rfl) h1
  obtain ⟨a2, l2, cap2, rfl, hl2, hm2, hna2, R2, w2⟩ := row_of (s := 1) (reads_row (s := 1) (reads_int Try.underlying3) (by kernel_rfl) Try.underlying23 (fun _ => rfl) (by decide)) (by kernel_rfl) Try.underlying61 (fun _ => rfl) (by decide) (hval 2 61 v2 rfl rfl) h2
  clear hA0 hval0
  refine (Spec.law (law_ImplyCloses a0 a1 a2 cap0 cap1 cap2 l0 l1 l2 W R0 hna0 R1 (by assumption) hna1 R2 (fun q hq => ⟨(w2 q hq).1, (w2 q hq).2.2.2.1⟩) (fun x hx => (wf_i64 (w1 x hx)).2) (fun q hq x hx => (wf_i64 ((w2 q hq).2.2.2.2 x hx)).2))).mono fun e W' ⟨he, bel⟩ => ?_
  subst he
  exact ⟨_, rfl, _, _, _, [], _, [], hW', trodAll_mk1 (shut_bool Try.underlying4 _), (trodAll_cons_mk (Below.trod laidOut (by kernel_rfl) (of_decide_eq_true (by kernel_rfl)) k0 bel lt0) (trodAll_cons_mk (Below.trod laidOut (by kernel_rfl) (of_decide_eq_true (by kernel_rfl)) k1 bel lt1) (trodAll_cons_mk (Below.trod laidOut (by kernel_rfl) (of_decide_eq_true (by kernel_rfl)) k2 bel lt2) trodAll_mk0))), rfl, bel.frame _, fun h => by cases h⟩
theorem j0 : (Rows.implyClosesRow.wf (OpenSpec.ofChange Rows.implyClosesSpec)) = true := by kernel_rfl
theorem j3 : (Try.f8.params.all (Try.prog.readableRec ·)) = true := by kernel_rfl
theorem j4 : (namedTie Try.prog Rows.implyClosesRow.named Rows.implyClosesSpec.vars) = true := by kernel_rfl
theorem j5 : ((Rows.implyClosesRow.stops == [])) = true := by kernel_rfl
theorem j7 : ((Rows.implyClosesRow.knobs == [])) = true := by kernel_rfl
theorem j9 : ((Rows.implyClosesRow.inPlace == Try.prog.inPlace 8)) = true := by kernel_rfl
theorem j10 : ((Rows.implyClosesRow.unfollowed == Try.prog.unfollowed 8)) = true := by kernel_rfl
theorem j11 : ((Rows.implyClosesRow.recurses == Try.prog.recurses 8)) = true := by kernel_rfl
theorem j12 : ((Rows.implyClosesRow.named == Try.prog.varsNamed 8)) = true := by kernel_rfl
theorem j13 : ((Rows.implyClosesRow.maps == (Try.f8.params.toList ++ Rows.implyClosesSpec.plain.varTypes Try.prog).any (Try.prog.mapsRec ·))) = true := by kernel_rfl
theorem j14 : ((Rows.implyClosesRow.ifaces == (Try.f8.params.toList ++ Rows.implyClosesSpec.plain.varTypes Try.prog).any (Try.prog.ifacesRec ·))) = true := by kernel_rfl
theorem j15 : ((Rows.implyClosesRow.mapsOut == Try.prog.mapsAmong Try.f8.resultTypes.toList)) = true := by kernel_rfl
theorem j16 : ((Rows.implyClosesRow.loops == (Try.f8.params.toList ++ Rows.implyClosesSpec.plain.varTypes Try.prog).any (Try.prog.loopsFrom ·))) = true := by kernel_rfl
theorem j17 : ((Rows.implyClosesRow.wideKeys == (Try.f8.params.toList ++ Rows.implyClosesSpec.plain.varTypes Try.prog ++ Try.f8.resultTypes.toList).any (Try.prog.wideKeysFrom ·))) = true := by kernel_rfl
theorem j18 : (Rows.implyClosesSpec.vars.all (Try.prog.varReadable ·)) = true := by kernel_rfl
theorem j19 : (Try.f8.resultTypes.all (fun t => Try.prog.readableRec t && decide (t < Try.prog.types.size))) = true := by kernel_rfl
theorem j20 : ((Rows.implyClosesRow.ifacesOut == Try.f8.resultTypes.toList.any (Try.prog.ifacesRec ·))) = true := by kernel_rfl
theorem j21 : ((Rows.implyClosesRow.loopsOut == Try.f8.resultTypes.toList.any (Try.prog.loopsFrom ·))) = true := by kernel_rfl
theorem j22 : ((Rows.implyClosesRow.plainKeys == Try.prog.plainKeys)) = true := by rw [show Rows.implyClosesRow.plainKeys = Rows.balanceMeansRow.plainKeys by kernel_rfl]; exact factKeys
theorem j23 : (Rows.implyClosesRow.shortTexts.isNone) = true := by kernel_rfl
theorem j26 : ((Rows.implyClosesRow.lifted == Try.prog.liftsFinal)) = true := by rw [show Rows.implyClosesRow.lifted = Rows.balanceMeansRow.lifted by kernel_rfl]; exact factLifts
theorem j27 : ((Try.prog.make == some Rows.implyClosesRow.make)) = true := by rw [show Rows.implyClosesRow.make = Rows.balanceMeansRow.make by kernel_rfl]; exact factMake
theorem j28 : ((Rows.implyClosesRow.kinds == (if Rows.implyClosesRow.domain.isEmpty then [] else Try.f8.params.toList.map fun t => match Try.prog.underlying t with | some (.int k) => some k | _ => none))) = true := by kernel_rfl
theorem j29 : ((Rows.implyClosesRow.pinned == Rows.implyClosesRow.pinnedBy)) = true := by kernel_rfl
theorem j30 : ((Rows.implyClosesRow.veiled == (Try.f8.params.toList ++ Rows.implyClosesSpec.plain.varTypes Try.prog ++ Try.f8.resultTypes.toList).any (Try.prog.veiledRec ·))) = true := by kernel_rfl
theorem j31 : (Rows.implyClosesRow.veiledFits Try.prog Try.f8.params.toList (Try.f8.params.toList ++ Rows.implyClosesSpec.plain.varTypes Try.prog ++ Try.f8.resultTypes.toList)) = true := by kernel_rfl
set_option maxRecDepth 100000 in
theorem closed : joinedFacts Try.checked.prog 8 Try.f8 Rows.implyClosesSpec Rows.implyClosesRow = true := by unfold joinedFacts; exact (band (band (band (band (band (band (band (band (band (band (band (band (band (band (band (band (band (band (band (band (band (band (band (band (band (band (band (band (band (band (band j0 factLaid) factMaps) j3) j4) j5) factStops) j7) factKnobs) j9) j10) j11) j12) j13) j14) j15) j16) j17) j18) j19) j20) j21) j22) j23) factHeard) factEnter) j26) j27) j28) j29) j30) j31)
theorem named : Try.checked.prog.funcNamed Rows.implyClosesRow.func = some 8 := by kernel_rfl
theorem over : Rows.implyClosesRow.holds Try.pinned (OpenSpec.ofChange Rows.implyClosesSpec) :=
  OpenClaim.holds_of_wide 8 Try.f8 rfl rfl rfl rfl rfl rfl rfl ⟨rfl, rfl, rfl, rfl, rfl⟩ rfl rfl rfl rfl rfl named Try.func8 closed
    (of_decide_eq_true (by kernel_rfl)) (by unfold Func.isWrapper; first | (rw [if_pos (by decide +kernel)]; kernel_rfl) | (rw [if_neg (by decide +kernel)]; exact ⟨rfl, rfl⟩))
    (fun os started H enc _ => lifted os started H enc)
/-- The statement. -/
theorem proved : Rows.ImplyClosesSaid := over
end implyCloses
end Go.Proofs.Ytmaekaflpbenmaa
