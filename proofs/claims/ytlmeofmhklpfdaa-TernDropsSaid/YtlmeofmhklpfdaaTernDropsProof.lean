/- TernDrops: which inputs are dropped for any literals is the reference's, and none more can be. No conditions. -/
import Derived.Test.YtlmeofmhklpfdaaRows
import Derived.Test.YtlmeofmhklpfdaaTern6
import Derived.Test.YtlmeofmhklpfdaaLtLift
import Derived.Lib.SmallJoins
namespace Go.Proofs.Ytlmeofmhklpfdaa
open Go Go.Lt Go.ChangeShapes Go.WideShapes Go.ChangeAt Go.RowKit
set_option linter.unusedVariables false
set_option linter.unusedSimpArgs false
open Go.ChangeMaps (open_string shut_string)
namespace ternDrops
theorem own : ownKnob Try.prog.godebug = none := by kernel_rfl
theorem laidOut : laidOutB Try.prog = true := by kernel_rfl
set_option maxRecDepth 100000 in
theorem lifted (os : Os) (started : os.Started) (H : Type) (enc : TypeId × Value → H) :
    ReturnsInHanded {} Try.checked os 14 .any (Rows.ternDropsSpec.pre6 enc Try.prog Try.f14 Rows.ternDropsRow.domain false) (Rows.ternDropsSpec.post enc Try.prog Try.f14 false true false false) := by
  refine returnsInHanded_of_change_sized (C := Try.checked) own started (by kernel_rfl) Try.func14
    (ChangeSpec.witness6 (enc := enc) (C := Try.checked) false ⟨#[], #[.slice none 0 0, .slice none 0 0, .slice none 0 0, .slice none 0 0], []⟩ 8 (by kernel_rfl) (by kernel_rfl) (by kernel_rfl) (by kernel_rfl)) ?_
  intro W base args ds gs before hval0 hW hcnd hsz _
  have hval : ∀ (j : Nat) t v, Try.f14.params[j]? = some t → args[j]? = some v → Value.okWide Try.prog W .any base t v := hval0
  have hW' := hW
  obtain ⟨p, q, hA0, hV, rfl, hfz, hnd⟩ := hW
  have hA : DataW.TrodAll enc Try.prog W 0 (fun _ => true) true Try.f14.params.toList args.toList ds p := hA0
  rw [Try.params14] at hA hval
  obtain ⟨v0, vs0, d0, ds0, p0, q0, hargs, rfl, rfl, h0, r0⟩ := trodAll_cons hA
  obtain ⟨v1, vs1, d1, ds1, p1, q1, rfl, rfl, rfl, h1, r1⟩ := trodAll_cons r0
  obtain ⟨v2, vs2, d2, ds2, p2, q2, rfl, rfl, rfl, h2, r2⟩ := trodAll_cons r1
  obtain ⟨v3, vs3, d3, ds3, p3, q3, rfl, rfl, rfl, h3, r3⟩ := trodAll_cons r2
  obtain ⟨rfl, rfl, rfl⟩ := trodAll_nil r3
  obtain rfl : args = #[v0, v1, v2, v3] := by cases args; simp_all
  obtain ⟨rfl, rfl⟩ := trodVars_none hV
  have k0 := h0
  have lt0 : ∀ x ∈ p0, x.block < W.heap.size := by obtain ⟨m, hm⟩ := k0; exact DataW.trod_lt m _ _ _ hm
  have k1 := h1
  have lt1 : ∀ x ∈ p1, x.block < W.heap.size := by obtain ⟨m, hm⟩ := k1; exact DataW.trod_lt m _ _ _ hm
  have k2 := h2
  have lt2 : ∀ x ∈ p2, x.block < W.heap.size := by obtain ⟨m, hm⟩ := k2; exact DataW.trod_lt m _ _ _ hm
  have k3 := h3
  have lt3 : ∀ x ∈ p3, x.block < W.heap.size := by obtain ⟨m, hm⟩ := k3; exact DataW.trod_lt m _ _ _ hm
  obtain ⟨a0, l0, cap0, rfl, hl0, hm0, hna0, R0, w0⟩ := row_of (s := 2) (reads_pair' (s0 := 1) (s1 := 1) Try.underlying59 (reads_int Try.underlying3) (reads_int Try.underlying3) (by kernel_rfl) rfl rfl (by kernel_rfl) (by kernel_rfl)) (by kernel_rfl) Try.underlying32 (fun _ => rfl) (by decide) (hval 0 32 v0 rfl rfl) h0
  obtain ⟨a1, l1, cap1, rfl, hl1, hm1, hna1, R1, w1⟩ := row_of (s := 1) (reads_int Try.underlying3) (by kernel_rfl) Try.underlying29 (fun _ => rfl) (by decide) (hval 1 29 v1 rfl rfl) h1
  obtain ⟨a2, l2, cap2, rfl, hl2, hm2, hna2, R2, w2⟩ := row_of (s := 1) (reads_int Try.underlying3) (by kernel_rfl) Try.underlying29 (fun _ => rfl) (by decide) (hval 2 29 v2 rfl rfl) h2
  obtain ⟨a3, l3, cap3, rfl, hl3, hm3, hna3, R3, w3⟩ := row_of (s := 1) (reads_bool Try.underlying4) (by kernel_rfl) Try.underlying38 (fun _ => rfl) (by decide) (hval 3 38 v3 rfl rfl) h3
  have sz0 : l0.length * 16 ≤ 140737488351232 := size_of (i := 0) 16 hsz (by kernel_rfl) rfl Try.underlying32 (by kernel_rfl) k0
  have sz1 : l1.length * 8 ≤ 140737488351232 := size_of (i := 1) 8 hsz (by kernel_rfl) rfl Try.underlying29 (by kernel_rfl) k1
  have sz2 : l2.length * 8 ≤ 140737488351232 := size_of (i := 2) 8 hsz (by kernel_rfl) rfl Try.underlying29 (by kernel_rfl) k2
  have sz3 : l3.length * 1 ≤ 140737488351232 := size_of (i := 3) 1 hsz (by kernel_rfl) rfl Try.underlying38 (by kernel_rfl) k3
  clear hA0 hval0
  refine (Spec.law (law_TernDrops a0 a1 a2 a3 cap0 cap1 cap2 cap3 l0 l1 l2 l3 W R0 R1 R2 R3 hna1 hna2 hna3 (by omega))).mono fun e W' ⟨he, bel⟩ => ?_
  subst he
  exact ⟨_, rfl, _, _, _, [], _, [], hW', trodAll_mk1 (shut_bool Try.underlying4 _), (trodAll_cons_mk (Below.trod laidOut (by kernel_rfl) (of_decide_eq_true (by kernel_rfl)) k0 bel lt0) (trodAll_cons_mk (Below.trod laidOut (by kernel_rfl) (of_decide_eq_true (by kernel_rfl)) k1 bel lt1) (trodAll_cons_mk (Below.trod laidOut (by kernel_rfl) (of_decide_eq_true (by kernel_rfl)) k2 bel lt2) (trodAll_cons_mk (Below.trod laidOut (by kernel_rfl) (of_decide_eq_true (by kernel_rfl)) k3 bel lt3) trodAll_mk0)))), rfl, bel.frame _, fun h => by cases h⟩
theorem over : Rows.ternDropsRow.holds Try.pinned (OpenSpec.ofChange Rows.ternDropsSpec) :=
  OpenClaim.holds_of_wide 14 Try.f14 rfl rfl rfl rfl rfl rfl rfl ⟨rfl, rfl, rfl, rfl, rfl⟩ rfl rfl rfl rfl rfl (by kernel_rfl) Try.func14 (by kernel_rfl)
    (of_decide_eq_true (by kernel_rfl)) (by unfold Func.isWrapper; first | (rw [if_pos (by decide +kernel)]; kernel_rfl) | (rw [if_neg (by decide +kernel)]; exact ⟨rfl, rfl⟩))
    (fun os started H enc _ => lifted os started H enc)
/-- The statement. -/
theorem proved : Rows.TernDropsSaid := over
end ternDrops
end Go.Proofs.Ytlmeofmhklpfdaa
