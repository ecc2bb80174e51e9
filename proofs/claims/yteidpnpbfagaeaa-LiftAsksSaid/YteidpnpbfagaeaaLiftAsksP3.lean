/- Part 3 of what the claim LiftAsks needs: lemmas and contracts, printed from longer texts. No conditions. -/
import Derived.Test.YteidpnpbfagaeaaRows
import Derived.Lib.SmallJoins
import Derived.KernelRfl
import Derived.WalkKit
import Derived.ProofKit
import Derived.Deep.Quiet
import Derived.Deep.LoopGhost
import Derived.StillTail
import Derived.Test.YteidpnpbfagaeaaProg
import Derived.OpenShut
import Derived.ShutString
import Derived.ChangeOld
import Derived.Deep.Slices
import Derived.SizedLaws
import Derived.Laws.StructEq
import Derived.Laws.Externs
import Derived.MapKept
import Derived.Test.YteidpnpbfagaeaaLiftAsksP2
namespace Go.Proofs.Yteidpnpbfagaeaa
open Go Go.Lt Go.RowKit
set_option linter.unusedVariables false
set_option linter.unusedSimpArgs false
set_option maxRecDepth 20000

theorem chk_5 {c : CirT} (h : BadMax c ∨ BadOwn c ∨ BadUse c ∨ BadRes c) : chkC c = 5 := by unfold chkC; rw [if_pos h]
theorem chk_7 {c : CirT} (h5 : ¬ (BadMax c ∨ BadOwn c ∨ BadUse c ∨ BadRes c)) (h : Twice c) : chkC c = 7 := by unfold chkC; rw [if_neg h5, if_pos h]
theorem chk_9 {c : CirT} (h5 : ¬ (BadMax c ∨ BadOwn c ∨ BadUse c ∨ BadRes c)) (h7 : ¬ Twice c) (h : NoneC c) : chkC c = 9 := by unfold chkC; rw [if_neg h5, if_neg h7, if_pos h]
theorem chk_8 {c : CirT} (h5 : ¬ (BadMax c ∨ BadOwn c ∨ BadUse c ∨ BadRes c)) (h7 : ¬ Twice c) (h9 : ¬ NoneC c) (h : (ordL c.gates).length < c.gates.length) : chkC c = 8 := by unfold chkC; rw [if_neg h5, if_neg h7, if_neg h9, if_pos h]
theorem chk_0 {c : CirT} (h5 : ¬ (BadMax c ∨ BadOwn c ∨ BadUse c ∨ BadRes c)) (h7 : ¬ Twice c) (h9 : ¬ NoneC c) (h : ¬ (ordL c.gates).length < c.gates.length) : chkC c = 0 := by unfold chkC; rw [if_neg h5, if_neg h7, if_neg h9, if_neg h]
theorem mem_take_snoc {α : Type} {l : List α} {k : Nat} {x y : α} (hx : l[k]? = some x) (h : y ∈ l.take (k + 1)) : y ∈ l.take k ∨ y = x := by
  rw [take_succ' hx] at h
  rcases List.mem_append.1 h with h | h
  · exact .inl h
  · exact .inr (List.mem_singleton.1 h)
set_option maxHeartbeats 32000000 in
theorem ref11_Check (c : Circ) (w : World) (hC : CAt w c) (hz : SzC c.t 100000) :
    Pure Try.prog 50 [c.val] w (.int .i64 (chkC c.t)) := by
  have hcm : c.t.max = c.max := rfl
  have z1 : c.ins.2.2.length ≤ 100000 := hz.1
  have z2 : c.lat.2.2.length ≤ 100000 := hz.2.1
  have z3 : c.outs.2.2.length ≤ 100000 := hz.2.2.1
  have z4 : c.bads.2.2.length ≤ 100000 := hz.2.2.2.1
  have z5 : c.cons.2.2.length ≤ 100000 := hz.2.2.2.2.1
  have z6 : c.gates.2.2.length ≤ 100000 := hz.2.2.2.2.2
  have hol : c.t.own.length ≤ 300000 := by
    show (c.ins.2.2 ++ c.lat.2.2.map (·.1) ++ c.gates.2.2.map (·.1)).length ≤ _
    simp; omega
  have hul : c.t.used.length ≤ 600000 := by
    show (c.outs.2.2 ++ c.bads.2.2 ++ c.cons.2.2 ++ c.lat.2.2.map (·.2.1) ++ c.gates.2.2.flatMap (fun g => [g.2.1, g.2.2])).length ≤ _
    rw [List.length_append, flat_len]; simp; omega
  by_cases hmax : BadMax c.t
  · rw [chk_5 (.inl hmax)]
    have hmax' : c.max < 0 ∨ 16777216 < c.max := hmax
    refine Spec.of _ Try.func50 rfl Try.ntmps50 (by kernel_rfl) rfl ?_
    repeat' (first
      | (apply WL.box; (iterate 3 exact rfl); intro gb w' hb hge hc hx; have hcc := hc; (first | (obtain ⟨h1, h2, h3, _⟩ := hc) | (obtain ⟨h1, h2, _⟩ := hc)); (obtain ⟨y0, _⟩ := hcc; obtain ⟨gc, rfl⟩ : ∃ x, x = gb := ⟨_, rfl⟩; obtain ⟨wc, rfl⟩ : ∃ x, x = w' := ⟨_, rfl⟩; obtain ⟨hxc, rfl⟩ : ∃ x, x = hx := ⟨_, rfl⟩))
      | (show WL _ _ _ _ _ _ _; first | apply WL.nil | (refine WL.au (k := ?_)) | (apply WL.guardF; exact rfl; exact rfl) | (apply WL.gD; exact rfl; exact rfl; all_goals intro _))
      | (show Z _ _ _ _ _; first | apply Z.then_normal | apply Z.then_ret)
      | (show W _ _ _ _ _ _; first | apply W.seq | apply W.region | apply W.skip | apply W.ret | (apply W.condT; exact rfl) | (apply W.condD; exact rfl; all_goals intro _))
      | fail)
    all_goals first
      | exact Z.body1 Try.results50 rfl fun m => ⟨rfl, Ext.at (by (exact extA)) m⟩
      | (exfalso; omega)
      | skip
  have hm0 : ¬ (c.max < 0 ∨ 16777216 < c.max) := hmax
  refine Spec.of _ Try.func50 rfl Try.ntmps50 (by kernel_rfl) rfl ?_
  repeat' (first
    | (apply WL.box; (iterate 3 exact rfl); intro gb w' hb hge hc hx; have hcc := hc; (first | (obtain ⟨h1, h2, h3, _⟩ := hc) | (obtain ⟨h1, h2, _⟩ := hc)); (have hcells := hcc; obtain ⟨y0, y1, y2, y3, y4, y5, y6, _⟩ := hcc; obtain ⟨gc, rfl⟩ : ∃ x, x = gb := ⟨_, rfl⟩; obtain ⟨wc, rfl⟩ : ∃ x, x = w' := ⟨_, rfl⟩; obtain ⟨hxc, rfl⟩ : ∃ x, x = hx := ⟨_, rfl⟩))
    | (apply WL.gF; exact rfl; exact rfl; (focus (exact dec_false (by omega); done)))
    | (apply W.condKF; exact rfl; (focus (exact dec_false (by omega); done)))
    | (show WL _ _ _ _ _ _ _; first | apply WL.nil | (refine WL.au (k := ?_)))
    | (show Z _ _ _ _ _; apply Z.then_normal)
    | (show W _ _ _ _ _ _; first | apply W.seq | apply W.region | apply W.skip)
    | fail)
  repeat' (first
    | (show W _ _ (.region 3 _ _) _ _ _; apply W.regionGX (.fl false 0 (.fl false 2 (.br 1 (.br 3 (.fl true 4 (.fl true 5 .done)) .stop) .stop))) [1, 2, 3, 4] tMix; kernel_rfl)
    | ((show WL _ _ _ (⟨_, .call ⟨.value (.func 100), _, _⟩, _, _, _, _⟩ :: _) _ _ _); apply WL.call; (iterate 4 exact rfl); exact ref11_Owned c _ (hC.ext (by (exact extA))) hz; rintro v' w' ⟨hx, a', cap', rfl, hO⟩; (obtain ⟨hOo, rfl⟩ : ∃ x, x = hO := ⟨_, rfl⟩; obtain ⟨hxo, rfl⟩ : ∃ x, x = hx := ⟨_, rfl⟩; obtain ⟨wo, rfl⟩ : ∃ x, x = w' := ⟨_, rfl⟩; obtain ⟨ao, rfl⟩ : ∃ x, x = a' := ⟨_, rfl⟩; obtain ⟨co, rfl⟩ : ∃ x, x = cap' := ⟨_, rfl⟩))
    | ((show WL _ _ _ (⟨_, .call ⟨.value (.func 101), _, _⟩, _, _, _, _⟩ :: _) _ _ _); apply WL.call; (iterate 4 exact rfl); exact ref11_Used c _ (hC.ext (by (exact extA))) hz; rintro v' w' ⟨hx, a', cap', rfl, hO⟩; (obtain ⟨hOu, rfl⟩ : ∃ x, x = hO := ⟨_, rfl⟩; obtain ⟨hxu, rfl⟩ : ∃ x, x = hx := ⟨_, rfl⟩; obtain ⟨wu, rfl⟩ : ∃ x, x = w' := ⟨_, rfl⟩; obtain ⟨au, rfl⟩ : ∃ x, x = a' := ⟨_, rfl⟩; obtain ⟨cu, rfl⟩ : ∃ x, x = cap' := ⟨_, rfl⟩))
    | (show SX _ _ _ _ _ _ _ _ _; first | (apply SX.done; intro w' hx) | (apply SX.fl0; exact rfl) | (apply SX.fl1; exact rfl; (exact extA)) | (apply SX.br1; exact rfl; intro w' hx))
    | (show FL _ _ _ _ _ _ _ _; first | apply FL.nilX | (apply FL.loadAE tOk; (iterate 5 exact rfl); assumption; exact rfl))
    | (show FL _ _ _ _ _ _ _ _; (refine FL.au (k := ?_)))
    | (show Z _ _ _ _ _; (apply Z.sxE; (exact extA)))
    | (show WL _ _ _ _ _ _ _; first | apply WL.nil | (refine WL.au (k := ?_)))
    | (show Z _ _ _ _ _; apply Z.then_normal)
    | (show W _ _ _ _ _ _; first | apply W.seq | apply W.region | apply W.block)
    | fail)
  have hXu : Ext wc wu := (by (exact extA))
  have hXw : Ext w wu := hxc.trans hXu
  have Ro := (Own.row encI_ok hOo).ext (show Ext wo wu from (by (exact extA)))
  have Ru := Own.row encI_ok hOu
  have Rl := hC.lat.row.ext hXw
  have Rg := hC.gates.row.ext hXw
  have hcu := hcells.ext hXu
  have x0 : wu.cell? ⟨gc, 0, none⟩ = some (.int .i64 c.max) := hcu.1
  have x2 : wu.cell? ⟨gc, 0 + 1 + 1, none⟩ = some (rowVal c.lat) := hcu.2.2.1
  have x6 : wu.cell? ⟨gc, 0 + 1 + 1 + 1 + 1 + 1 + 1, none⟩ = some (rowVal c.gates) := hcu.2.2.2.2.2.2.1
  have hOr := hOo.capLe
  refine W.loop1 c.t.own.length (fun k => k ≤ c.t.own.length ∧ ∀ x ∈ c.t.own.take k, 2 ≤ x ∧ x % 2 = 0 ∧ x ≤ 2 * c.max) (fun k => [(1, .pointer (some ⟨gc, 0, none⟩)), (3, .slice ao c.t.own.length co), (4, .slice au c.t.used.length cu), (5, .int .i64 k)]) ⟨Nat.zero_le _, fun x h => by simp at h⟩ (fun k h => h.1) ⟨rfl, rfl, rfl, rfl, trivial⟩ ?_
  rintro k ⟨hk, hq⟩
  by_cases hlt : k < c.t.own.length
  · obtain ⟨x, hx⟩ := getI c.t.own hlt
    have hxm := List.mem_of_getElem? hx
    by_cases b1 : x < 2
    · repeat' (first
        | (apply QL.gT; exact rfl; exact rfl; (focus (first | exact dec_true (by omega); done)))
        | (apply W.condKT; exact rfl; (focus (first | exact dec_true (by omega); done)))
        | (show WL _ _ _ _ _ _ _; first | apply WL.nil | (refine WL.au (k := ?_)))
        | (show QL _ _ _ _ _ _ _; first | apply QL.nil | (refine QL.au (k := ?_)) | (apply QL.index tOk; (iterate 8 exact rfl); assumption; (exact extA); exact rfl; omega; assumption; intro b off h; have hcc := h; first | (obtain ⟨h1, h2, h3, h4, h5, h6, _⟩ := h) | (obtain ⟨h1, h2, h3, _⟩ := h) | (obtain ⟨h1, h2, _⟩ := h) | (obtain ⟨h1, _⟩ := h)) | (apply QL.guardF; exact rfl; exact rfl))
        | (show Z _ _ _ _ _; first | apply Z.then_normal | apply Z.then_ret | apply Z.block_ret)
        | (show W _ _ _ _ _ _; first | apply W.seq | apply W.region | apply W.block | apply W.skip | apply W.ret | (apply W.condT; exact rfl) | (apply W.regionD tMix; kernel_rfl))
        | fail)
      exact Z.body1 Try.results50 rfl fun m => ⟨congrArg (Value.int IntKind.i64) (chk_5 (.inr (.inl ⟨x, hxm, .inl b1⟩))).symm, Ext.at (by (exact extA)) m⟩
    by_cases b2 : x % 2 = 1
    · repeat' (first
        | (apply QL.gT; exact rfl; exact rfl; (focus (first | exact dec_true (by omega) | exact dec_false (by omega); done)))
        | (apply QL.gF; exact rfl; exact rfl; (focus (first | exact dec_true (by omega) | exact dec_false (by omega); done)))
        | (apply W.condKT; exact rfl; (focus (first | exact dec_true (by omega) | exact dec_false (by omega); done)))
        | (show WL _ _ _ _ _ _ _; first | apply WL.nil | (refine WL.au (k := ?_)))
        | (show QL _ _ _ _ _ _ _; first | apply QL.nil | (refine QL.au (k := ?_)) | (apply QL.index tOk; (iterate 8 exact rfl); assumption; (exact extA); exact rfl; omega; assumption; intro b off h; have hcc := h; first | (obtain ⟨h1, h2, h3, h4, h5, h6, _⟩ := h) | (obtain ⟨h1, h2, h3, _⟩ := h) | (obtain ⟨h1, h2, _⟩ := h) | (obtain ⟨h1, _⟩ := h)) | (apply QL.guardF; exact rfl; exact rfl))
        | (show Z _ _ _ _ _; first | apply Z.then_normal | apply Z.then_ret | apply Z.block_ret)
        | (show W _ _ _ _ _ _; first | apply W.seq | apply W.region | apply W.block | apply W.skip | apply W.ret | (apply W.condT; exact rfl) | (apply W.regionD tMix; kernel_rfl))
        | fail)
      exact Z.body1 Try.results50 rfl fun m => ⟨congrArg (Value.int IntKind.i64) (chk_5 (.inr (.inl ⟨x, hxm, .inr (.inl b2)⟩))).symm, Ext.at (by (exact extA)) m⟩
    by_cases b3 : 2 * c.max < x
    · repeat' (first
        | (apply QL.gF; exact rfl; exact rfl; (focus (first | exact dec_true (by omega) | exact dec_false (by omega); done)))
        | (apply W.condKT; exact rfl; (focus (first | exact dec_true (by omega) | exact dec_false (by omega); done)))
        | (show WL _ _ _ _ _ _ _; first | apply WL.nil | (refine WL.au (k := ?_)))
        | (show QL _ _ _ _ _ _ _; first | apply QL.nil | (refine QL.au (k := ?_)) | (apply QL.index tOk; (iterate 8 exact rfl); assumption; (exact extA); exact rfl; omega; assumption; intro b off h; have hcc := h; first | (obtain ⟨h1, h2, h3, h4, h5, h6, _⟩ := h) | (obtain ⟨h1, h2, h3, _⟩ := h) | (obtain ⟨h1, h2, _⟩ := h) | (obtain ⟨h1, _⟩ := h)))
        | (show Z _ _ _ _ _; first | apply Z.then_normal | apply Z.then_ret | apply Z.block_ret)
        | (show W _ _ _ _ _ _; first | apply W.seq | apply W.region | apply W.block | apply W.skip | apply W.ret | (apply W.regionD tMix; kernel_rfl))
        | fail)
      exact Z.body1 Try.results50 rfl fun m => ⟨congrArg (Value.int IntKind.i64) (chk_5 (.inr (.inl ⟨x, hxm, .inr (.inr b3)⟩))).symm, Ext.at (by (exact extA)) m⟩
    · repeat' (first
        | (apply QL.gF; exact rfl; exact rfl; (focus (first | exact dec_true (by omega) | exact dec_false (by omega); done)))
        | (apply W.condKT; exact rfl; (focus (first | exact dec_true (by omega) | exact dec_false (by omega); done)))
        | (apply W.condKF; exact rfl; (focus (first | exact dec_true (by omega) | exact dec_false (by omega); done)))
        | (show WL _ _ _ _ _ _ _; first | apply WL.nil | (refine WL.au (k := ?_)))
        | (show QL _ _ _ _ _ _ _; first | apply QL.nil | (refine QL.au (k := ?_)) | (apply QL.index tOk; (iterate 8 exact rfl); assumption; (exact extA); exact rfl; omega; assumption; intro b off h; have hcc := h; first | (obtain ⟨h1, h2, h3, h4, h5, h6, _⟩ := h) | (obtain ⟨h1, h2, h3, _⟩ := h) | (obtain ⟨h1, h2, _⟩ := h) | (obtain ⟨h1, _⟩ := h)))
        | (show Z _ _ _ _ _; first | apply Z.then_normal | apply Z.block_normal)
        | (show W _ _ _ _ _ _; first | apply W.seq | apply W.region | apply W.block | apply W.skip | (apply W.regionD tMix; kernel_rfl))
        | fail)
      refine Z.again1 ⟨by omega, fun y hy => ?_⟩ ⟨rfl, rfl, rfl, rfl, trivial⟩
      rcases mem_take_snoc hx hy with hy | rfl
      · exact hq y hy
      · omega
  obtain rfl : k = c.t.own.length := by omega
  rw [List.take_length] at hq
  repeat' (first
    | (apply W.condKF; exact rfl; (focus (exact dec_false (by omega); done)))
    | (show WL _ _ _ _ _ _ _; first | apply WL.nil | (refine WL.au (k := ?_)))
    | (show Z _ _ _ _ _; first | apply Z.then_normal | apply Z.then_exit | apply Z.block_exit)
    | (show W _ _ _ _ _ _; first | apply W.seq | apply W.region | apply W.block | apply W.exit)
    | fail)
  have hown := hq
  clear hq hk hlt
  refine W.loop1 c.t.used.length (fun k => k ≤ c.t.used.length ∧ ∀ x ∈ c.t.used.take k, 0 ≤ x ∧ x ≤ 2 * c.max + 1) (fun k => [(1, .pointer (some ⟨gc, 0, none⟩)), (3, .slice ao c.t.own.length co), (4, .slice au c.t.used.length cu), (6, .int .i64 k)]) ⟨Nat.zero_le _, fun x h => by simp at h⟩ (fun k h => h.1) ⟨rfl, rfl, rfl, rfl, trivial⟩ ?_
  rintro k ⟨hk, hq⟩
  by_cases hlt : k < c.t.used.length
  · obtain ⟨x, hx⟩ := getI c.t.used hlt
    have hxm := List.mem_of_getElem? hx
    by_cases b1 : x < 0
    · repeat' (first
        | (apply QL.gT; exact rfl; exact rfl; (focus (first | exact dec_true (by omega); done)))
        | (apply W.condKT; exact rfl; (focus (first | exact dec_true (by omega); done)))
        | (show WL _ _ _ _ _ _ _; first | apply WL.nil | (refine WL.au (k := ?_)))
        | (show QL _ _ _ _ _ _ _; first | apply QL.nil | (refine QL.au (k := ?_)) | (apply QL.index tOk; (iterate 8 exact rfl); assumption; (exact extA); exact rfl; omega; assumption; intro b off h; have hcc := h; first | (obtain ⟨h1, h2, h3, h4, h5, h6, _⟩ := h) | (obtain ⟨h1, h2, h3, _⟩ := h) | (obtain ⟨h1, h2, _⟩ := h) | (obtain ⟨h1, _⟩ := h)) | (apply QL.guardF; exact rfl; exact rfl))
        | (show Z _ _ _ _ _; first | apply Z.then_normal | apply Z.then_ret | apply Z.block_ret)
        | (show W _ _ _ _ _ _; first | apply W.seq | apply W.region | apply W.block | apply W.skip | apply W.ret | (apply W.condT; exact rfl) | (apply W.regionD tMix; kernel_rfl))
        | fail)
      exact Z.body1 Try.results50 rfl fun m => ⟨congrArg (Value.int IntKind.i64) (chk_5 (.inr (.inr (.inl ⟨x, hxm, .inl b1⟩)))).symm, Ext.at (by (exact extA)) m⟩
    by_cases b3 : 2 * c.max + 1 < x
    · repeat' (first
        | (apply QL.gF; exact rfl; exact rfl; (focus (first | exact dec_true (by omega) | exact dec_false (by omega); done)))
        | (apply W.condKT; exact rfl; (focus (first | exact dec_true (by omega) | exact dec_false (by omega); done)))
        | (show WL _ _ _ _ _ _ _; first | apply WL.nil | (refine WL.au (k := ?_)))
        | (show QL _ _ _ _ _ _ _; first | apply QL.nil | (refine QL.au (k := ?_)) | (apply QL.index tOk; (iterate 8 exact rfl); assumption; (exact extA); exact rfl; omega; assumption; intro b off h; have hcc := h; first | (obtain ⟨h1, h2, h3, h4, h5, h6, _⟩ := h) | (obtain ⟨h1, h2, h3, _⟩ := h) | (obtain ⟨h1, h2, _⟩ := h) | (obtain ⟨h1, _⟩ := h)))
        | (show Z _ _ _ _ _; first | apply Z.then_normal | apply Z.then_ret | apply Z.block_ret)
        | (show W _ _ _ _ _ _; first | apply W.seq | apply W.region | apply W.block | apply W.skip | apply W.ret | (apply W.regionD tMix; kernel_rfl))
        | fail)
      exact Z.body1 Try.results50 rfl fun m => ⟨congrArg (Value.int IntKind.i64) (chk_5 (.inr (.inr (.inl ⟨x, hxm, .inr b3⟩)))).symm, Ext.at (by (exact extA)) m⟩
    · repeat' (first
        | (apply QL.gF; exact rfl; exact rfl; (focus (first | exact dec_true (by omega) | exact dec_false (by omega); done)))
        | (apply W.condKT; exact rfl; (focus (first | exact dec_true (by omega) | exact dec_false (by omega); done)))
        | (apply W.condKF; exact rfl; (focus (first | exact dec_true (by omega) | exact dec_false (by omega); done)))
        | (show WL _ _ _ _ _ _ _; first | apply WL.nil | (refine WL.au (k := ?_)))
        | (show QL _ _ _ _ _ _ _; first | apply QL.nil | (refine QL.au (k := ?_)) | (apply QL.index tOk; (iterate 8 exact rfl); assumption; (exact extA); exact rfl; omega; assumption; intro b off h; have hcc := h; first | (obtain ⟨h1, h2, h3, h4, h5, h6, _⟩ := h) | (obtain ⟨h1, h2, h3, _⟩ := h) | (obtain ⟨h1, h2, _⟩ := h) | (obtain ⟨h1, _⟩ := h)))
        | (show Z _ _ _ _ _; first | apply Z.then_normal | apply Z.block_normal)
        | (show W _ _ _ _ _ _; first | apply W.seq | apply W.region | apply W.block | apply W.skip | (apply W.regionD tMix; kernel_rfl))
        | fail)
      refine Z.again1 ⟨by omega, fun y hy => ?_⟩ ⟨rfl, rfl, rfl, rfl, trivial⟩
      rcases mem_take_snoc hx hy with hy | rfl
      · exact hq y hy
      · omega
  obtain rfl : k = c.t.used.length := by omega
  rw [List.take_length] at hq
  repeat' (first
    | (apply W.condKF; exact rfl; (focus (exact dec_false (by omega); done)))
    | (show WL _ _ _ _ _ _ _; first | apply WL.nil | (refine WL.au (k := ?_)))
    | (show Z _ _ _ _ _; first | apply Z.then_normal | apply Z.then_exit | apply Z.block_exit)
    | (show W _ _ _ _ _ _; first | apply W.seq | apply W.region | apply W.block | apply W.exit)
    | fail)
  have hused := hq
  clear hq hk hlt
  refine W.loop1 c.lat.2.2.length (fun k => k ≤ c.lat.2.2.length ∧ ∀ x ∈ c.lat.2.2.take k, x.2.2 = 0 ∨ x.2.2 = 1 ∨ x.2.2 = x.1) (fun k => [(1, .pointer (some ⟨gc, 0, none⟩)), (3, .slice ao c.t.own.length co), (4, .slice au c.t.used.length cu), (7, .int .i64 k)]) ⟨Nat.zero_le _, fun x h => by simp at h⟩ (fun k h => h.1) ⟨rfl, rfl, rfl, rfl, trivial⟩ ?_
  rintro k ⟨hk, hq⟩
  by_cases hlt : k < c.lat.2.2.length
  · obtain ⟨x, hx⟩ := getI c.lat.2.2 hlt
    have hxm := List.mem_of_getElem? hx
    by_cases b1 : x.2.2 = 0
    · repeat' (first
        | (apply WL.gF; exact rfl; exact rfl; (focus (first | exact dec_true (by omega) | exact dec_false (fun h => h b1); done)))
        | (apply W.condKT; exact rfl; (focus (first | exact dec_true (by omega) | exact dec_false (fun h => h b1); done)))
        | (show WL _ _ _ _ _ _ _; first | apply WL.nil | (refine WL.au (k := ?_)) | (apply WL.index tOk; (iterate 8 exact rfl); assumption; (exact extA); exact rfl; omega; assumption; intro b off h; have hcc := h; first | (obtain ⟨h1, h2, h3, h4, h5, h6, _⟩ := h) | (obtain ⟨h1, h2, h3, _⟩ := h) | (obtain ⟨h1, h2, _⟩ := h) | (obtain ⟨h1, _⟩ := h)) | (apply WL.guardF; exact rfl; exact rfl))
        | (show Z _ _ _ _ _; first | apply Z.then_normal | apply Z.block_normal)
        | (show W _ _ _ _ _ _; first | apply W.seq | apply W.region | apply W.block | apply W.skip | (apply W.condF; exact rfl))
        | fail)
      refine Z.again1 ⟨by omega, fun y hy => ?_⟩ ⟨rfl, rfl, rfl, rfl, trivial⟩
      rcases mem_take_snoc hx hy with hy | rfl
      · exact hq y hy
      · exact .inl b1
    by_cases b2 : x.2.2 = 1
    · repeat' (first
        | (apply WL.gT; exact rfl; exact rfl; (focus (first | exact dec_true (by omega) | exact dec_true b1 | exact dec_false (fun h => h b2); done)))
        | (apply WL.gF; exact rfl; exact rfl; (focus (first | exact dec_true (by omega) | exact dec_true b1 | exact dec_false (fun h => h b2); done)))
        | (apply W.condKT; exact rfl; (focus (first | exact dec_true (by omega) | exact dec_true b1 | exact dec_false (fun h => h b2); done)))
        | (show WL _ _ _ _ _ _ _; first | apply WL.nil | (refine WL.au (k := ?_)) | (apply WL.index tOk; (iterate 8 exact rfl); assumption; (exact extA); exact rfl; omega; assumption; intro b off h; have hcc := h; first | (obtain ⟨h1, h2, h3, h4, h5, h6, _⟩ := h) | (obtain ⟨h1, h2, h3, _⟩ := h) | (obtain ⟨h1, h2, _⟩ := h) | (obtain ⟨h1, _⟩ := h)) | (apply WL.guardF; exact rfl; exact rfl))
        | (show Z _ _ _ _ _; first | apply Z.then_normal | apply Z.block_normal)
        | (show W _ _ _ _ _ _; first | apply W.seq | apply W.region | apply W.block | apply W.skip | (apply W.condF; exact rfl))
        | fail)
      refine Z.again1 ⟨by omega, fun y hy => ?_⟩ ⟨rfl, rfl, rfl, rfl, trivial⟩
      rcases mem_take_snoc hx hy with hy | rfl
      · exact hq y hy
      · exact .inr (.inl b2)
    by_cases b3 : x.2.2 = x.1
    · repeat' (first
        | (apply WL.gT; exact rfl; exact rfl; (focus (first | exact dec_true (by omega) | exact dec_true b1 | exact dec_true b2 | exact dec_false (fun h => h b3); done)))
        | (apply W.condKT; exact rfl; (focus (first | exact dec_true (by omega) | exact dec_true b1 | exact dec_true b2 | exact dec_false (fun h => h b3); done)))
        | (apply W.condKF; exact rfl; (focus (first | exact dec_true (by omega) | exact dec_true b1 | exact dec_true b2 | exact dec_false (fun h => h b3); done)))
        | (show WL _ _ _ _ _ _ _; first | apply WL.nil | (refine WL.au (k := ?_)) | (apply WL.index tOk; (iterate 8 exact rfl); assumption; (exact extA); exact rfl; omega; assumption; intro b off h; have hcc := h; first | (obtain ⟨h1, h2, h3, h4, h5, h6, _⟩ := h) | (obtain ⟨h1, h2, h3, _⟩ := h) | (obtain ⟨h1, h2, _⟩ := h) | (obtain ⟨h1, _⟩ := h)))
        | (show Z _ _ _ _ _; first | apply Z.then_normal | apply Z.block_normal)
        | (show W _ _ _ _ _ _; first | apply W.seq | apply W.region | apply W.block | apply W.skip)
        | fail)
      refine Z.again1 ⟨by omega, fun y hy => ?_⟩ ⟨rfl, rfl, rfl, rfl, trivial⟩
      rcases mem_take_snoc hx hy with hy | rfl
      · exact hq y hy
      · exact .inr (.inr b3)
    · repeat' (first
        | (apply WL.gT; exact rfl; exact rfl; (focus (first | exact dec_true (by omega) | exact dec_true b1 | exact dec_true b2 | exact dec_true b3; done)))
        | (apply W.condKT; exact rfl; (focus (first | exact dec_true (by omega) | exact dec_true b1 | exact dec_true b2 | exact dec_true b3; done)))
        | (show WL _ _ _ _ _ _ _; first | apply WL.nil | (refine WL.au (k := ?_)) | (apply WL.index tOk; (iterate 8 exact rfl); assumption; (exact extA); exact rfl; omega; assumption; intro b off h; have hcc := h; first | (obtain ⟨h1, h2, h3, h4, h5, h6, _⟩ := h) | (obtain ⟨h1, h2, h3, _⟩ := h) | (obtain ⟨h1, h2, _⟩ := h) | (obtain ⟨h1, _⟩ := h)))
        | (show Z _ _ _ _ _; first | apply Z.then_normal | apply Z.then_ret | apply Z.block_ret)
        | (show W _ _ _ _ _ _; first | apply W.seq | apply W.region | apply W.block | apply W.skip | apply W.ret)
        | fail)
      exact Z.body1 Try.results50 rfl fun m => ⟨congrArg (Value.int IntKind.i64) (chk_5 (.inr (.inr (.inr ⟨x, hxm, b1, b2, b3⟩)))).symm, Ext.at (by (exact extA)) m⟩
  obtain rfl : k = c.lat.2.2.length := by omega
  rw [List.take_length] at hq
  repeat' (first
    | (apply W.condKF; exact rfl; (focus (exact dec_false (by omega); done)))
    | (show WL _ _ _ _ _ _ _; first | apply WL.nil | (refine WL.au (k := ?_)))
    | (show Z _ _ _ _ _; first | apply Z.then_normal | apply Z.then_exit | apply Z.block_exit)
    | (show W _ _ _ _ _ _; first | apply W.seq | apply W.region | apply W.block | apply W.exit)
    | fail)
  have hres := hq
  clear hq hk hlt
  have hno5 : ¬ (BadMax c.t ∨ BadOwn c.t ∨ BadUse c.t ∨ BadRes c.t) := by
    rintro (h | ⟨x, h1, h2⟩ | ⟨x, h1, h2⟩ | ⟨x, h1, h2⟩)
    · exact hmax h
    · have := hown x h1; omega
    · have := hused x h1; omega
    · have := hres x h1; omega
  refine W.loop1 c.t.own.length (fun k => k ≤ c.t.own.length ∧ ∀ (i : Nat) (x : Int), i < k → c.t.own[i]? = some x → x ∉ c.t.own.take i) (fun k => [(1, .pointer (some ⟨gc, 0, none⟩)), (3, .slice ao c.t.own.length co), (4, .slice au c.t.used.length cu), (9, .int .i64 k)]) ⟨Nat.zero_le _, fun i x h => absurd h (Nat.not_lt_zero _)⟩ (fun k h => h.1) ⟨rfl, rfl, rfl, rfl, trivial⟩ ?_
  rintro k ⟨hk, hq⟩
  by_cases hlt : k < c.t.own.length
  · obtain ⟨x, hx⟩ := getI c.t.own hlt
    by_cases b1 : x ∈ c.t.own.take k
    · repeat' (first
        | (apply W.condKT; exact rfl; (focus (first | exact dec_true (by omega) | exact dec_true b1; done)))
        | (apply QL.sliceH tOk; (iterate 7 exact rfl); assumption; (first | exact rfl | (focus (simp only [List.length_set]; done)) | (focus (simp; done)) | (focus (simp [*]; done)) | omega | (focus (simp only [List.length_set]; omega))); (first | assumption | omega); (first | omega | (simp; omega) | (simp at *; omega)); intro hR hc; (clear hR))
        | ((show QL _ _ _ _ (⟨_, .call ⟨.value (.func 102), _, _⟩, _, _, _, _⟩ :: _) _ _); apply QL.callS; (iterate 4 exact rfl); exact ref_Has _ _ (c.t.own.take k) x _ ((Ro.ext (by (exact extA))).take k))
        | (show WL _ _ _ _ _ _ _; first | apply WL.nil | (refine WL.au (k := ?_)))
        | (show QL _ _ _ _ _ _ _; first | apply QL.nil | (refine QL.au (k := ?_)) | (apply QL.index tOk; (iterate 8 exact rfl); assumption; (exact extA); exact rfl; omega; assumption; intro b off h; have hcc := h; first | (obtain ⟨h1, h2, h3, h4, h5, h6, _⟩ := h) | (obtain ⟨h1, h2, h3, _⟩ := h) | (obtain ⟨h1, h2, _⟩ := h) | (obtain ⟨h1, _⟩ := h)))
        | (show Z _ _ _ _ _; first | apply Z.then_normal | apply Z.then_ret | apply Z.block_ret)
        | (show W _ _ _ _ _ _; first | apply W.seq | apply W.region | apply W.block | apply W.skip | apply W.ret | (apply W.regionD tMix; kernel_rfl))
        | fail)
      exact Z.body1 Try.results50 rfl fun m => ⟨congrArg (Value.int IntKind.i64) (chk_7 hno5 ⟨k, x, hx, b1⟩).symm, Ext.at (by (exact extA)) m⟩
    · repeat' (first
        | (apply W.condKT; exact rfl; (focus (first | exact dec_true (by omega) | exact dec_false b1; done)))
        | (apply W.condKF; exact rfl; (focus (first | exact dec_true (by omega) | exact dec_false b1; done)))
        | (apply QL.sliceH tOk; (iterate 7 exact rfl); assumption; (first | exact rfl | (focus (simp only [List.length_set]; done)) | (focus (simp; done)) | (focus (simp [*]; done)) | omega | (focus (simp only [List.length_set]; omega))); (first | assumption | omega); (first | omega | (simp; omega) | (simp at *; omega)); intro hR hc; (clear hR))
        | ((show QL _ _ _ _ (⟨_, .call ⟨.value (.func 102), _, _⟩, _, _, _, _⟩ :: _) _ _); apply QL.callS; (iterate 4 exact rfl); exact ref_Has _ _ (c.t.own.take k) x _ ((Ro.ext (by (exact extA))).take k))
        | (show WL _ _ _ _ _ _ _; first | apply WL.nil | (refine WL.au (k := ?_)))
        | (show QL _ _ _ _ _ _ _; first | apply QL.nil | (refine QL.au (k := ?_)) | (apply QL.index tOk; (iterate 8 exact rfl); assumption; (exact extA); exact rfl; omega; assumption; intro b off h; have hcc := h; first | (obtain ⟨h1, h2, h3, h4, h5, h6, _⟩ := h) | (obtain ⟨h1, h2, h3, _⟩ := h) | (obtain ⟨h1, h2, _⟩ := h) | (obtain ⟨h1, _⟩ := h)))
        | (show Z _ _ _ _ _; first | apply Z.then_normal | apply Z.block_normal)
        | (show W _ _ _ _ _ _; first | apply W.seq | apply W.region | apply W.block | apply W.skip | (apply W.regionD tMix; kernel_rfl))
        | fail)
      refine Z.again1 ⟨by omega, fun i y hi hy => ?_⟩ ⟨rfl, rfl, rfl, rfl, trivial⟩
      rcases Nat.lt_succ_iff_lt_or_eq.1 hi with h | rfl
      · exact hq i y h hy
      · rw [hx] at hy; cases hy; exact b1
  obtain rfl : k = c.t.own.length := by omega
  repeat' (first
    | (apply W.condKF; exact rfl; (focus (exact dec_false (by omega); done)))
    | (show WL _ _ _ _ _ _ _; first | apply WL.nil | (refine WL.au (k := ?_)))
    | (show Z _ _ _ _ _; first | apply Z.then_normal | apply Z.then_exit | apply Z.block_exit)
    | (show W _ _ _ _ _ _; first | apply W.seq | apply W.region | apply W.block | apply W.exit)
    | fail)
  have hno7 : ¬ Twice c.t := by
    rintro ⟨i, x, h1, h2⟩
    exact hq i x (lt_of_get h1) h1 h2
  clear hq hk hlt
  refine W.loop1 c.t.used.length (fun k => k ≤ c.t.used.length ∧ ∀ x ∈ c.t.used.take k, 1 < x → x - x % 2 ∈ c.t.own) (fun k => [(1, .pointer (some ⟨gc, 0, none⟩)), (3, .slice ao c.t.own.length co), (4, .slice au c.t.used.length cu), (10, .int .i64 k)]) ⟨Nat.zero_le _, fun x h => by simp at h⟩ (fun k h => h.1) ⟨rfl, rfl, rfl, rfl, trivial⟩ ?_
  rintro k ⟨hk, hq⟩
  by_cases hlt : k < c.t.used.length
  · obtain ⟨x, hx⟩ := getI c.t.used hlt
    have hxm := List.mem_of_getElem? hx
    have hxb := hused x hxm
    by_cases r1 : 1 < x
    · by_cases b2 : x - x % 2 ∈ c.t.own
      · repeat' (first
          | (apply QL.gT; exact rfl; exact rfl; (focus (first | exact dec_true (by omega) | exact dec_true b2 | (rw [dec_true b2]; rfl); done)))
          | (apply W.condKT; exact rfl; (focus (first | exact dec_true (by omega) | exact dec_true b2 | (rw [dec_true b2]; rfl); done)))
          | (apply W.condKF; exact rfl; (focus (first | exact dec_true (by omega) | exact dec_true b2 | (rw [dec_true b2]; rfl); done)))
          | ((show QL _ _ _ _ (⟨_, .call ⟨.value (.func 102), _, _⟩, _, _, _, _⟩ :: _) _ _); apply QL.callS; (iterate 4 exact rfl); exact ref_Has _ _ c.t.own _ _ (Ro.ext (by (exact extA))))
          | (show WL _ _ _ _ _ _ _; first | apply WL.nil | (refine WL.au (k := ?_)))
          | (show QL _ _ _ _ _ _ _; first | apply QL.nil | (refine QL.au (k := ?_)) | (apply QL.index tOk; (iterate 8 exact rfl); assumption; (exact extA); exact rfl; omega; assumption; intro b off h; have hcc := h; first | (obtain ⟨h1, h2, h3, h4, h5, h6, _⟩ := h) | (obtain ⟨h1, h2, h3, _⟩ := h) | (obtain ⟨h1, h2, _⟩ := h) | (obtain ⟨h1, _⟩ := h)))
          | (show Z _ _ _ _ _; first | apply Z.then_normal | apply Z.block_normal)
          | (show W _ _ _ _ _ _; first | apply W.seq | apply W.region | apply W.block | apply W.skip | (apply W.regionD tMix; kernel_rfl))
          | fail)
        refine Z.again1 ⟨by omega, fun y hy q1 => ?_⟩ ⟨rfl, rfl, rfl, rfl, trivial⟩
        rcases mem_take_snoc hx hy with hy | rfl
        · exact hq y hy q1
        · exact b2
      · repeat' (first
          | (apply QL.gT; exact rfl; exact rfl; (focus (first | exact dec_true (by omega) | exact dec_false b2 | (rw [dec_false b2]; rfl); done)))
          | (apply W.condKT; exact rfl; (focus (first | exact dec_true (by omega) | exact dec_false b2 | (rw [dec_false b2]; rfl); done)))
          | ((show QL _ _ _ _ (⟨_, .call ⟨.value (.func 102), _, _⟩, _, _, _, _⟩ :: _) _ _); apply QL.callS; (iterate 4 exact rfl); exact ref_Has _ _ c.t.own _ _ (Ro.ext (by (exact extA))))
          | (show WL _ _ _ _ _ _ _; first | apply WL.nil | (refine WL.au (k := ?_)))
          | (show QL _ _ _ _ _ _ _; first | apply QL.nil | (refine QL.au (k := ?_)) | (apply QL.index tOk; (iterate 8 exact rfl); assumption; (exact extA); exact rfl; omega; assumption; intro b off h; have hcc := h; first | (obtain ⟨h1, h2, h3, h4, h5, h6, _⟩ := h) | (obtain ⟨h1, h2, h3, _⟩ := h) | (obtain ⟨h1, h2, _⟩ := h) | (obtain ⟨h1, _⟩ := h)))
          | (show Z _ _ _ _ _; first | apply Z.then_normal | apply Z.then_ret | apply Z.block_ret)
          | (show W _ _ _ _ _ _; first | apply W.seq | apply W.region | apply W.block | apply W.skip | apply W.ret | (apply W.regionD tMix; kernel_rfl))
          | fail)
        exact Z.body1 Try.results50 rfl fun m => ⟨congrArg (Value.int IntKind.i64) (chk_9 hno5 hno7 ⟨x, hxm, r1, b2⟩).symm, Ext.at (by (exact extA)) m⟩
    · repeat' (first
        | (apply QL.gF; exact rfl; exact rfl; (focus (first | exact dec_true (by omega) | exact dec_false (by omega); done)))
        | (apply W.condKT; exact rfl; (focus (first | exact dec_true (by omega) | exact dec_false (by omega); done)))
        | (show WL _ _ _ _ _ _ _; first | apply WL.nil | (refine WL.au (k := ?_)))
        | (show QL _ _ _ _ _ _ _; first | apply QL.nil | (refine QL.au (k := ?_)) | (apply QL.index tOk; (iterate 8 exact rfl); assumption; (exact extA); exact rfl; omega; assumption; intro b off h; have hcc := h; first | (obtain ⟨h1, h2, h3, h4, h5, h6, _⟩ := h) | (obtain ⟨h1, h2, h3, _⟩ := h) | (obtain ⟨h1, h2, _⟩ := h) | (obtain ⟨h1, _⟩ := h)) | (apply QL.guardF; exact rfl; exact rfl))
        | (show Z _ _ _ _ _; first | apply Z.then_normal | apply Z.block_normal)
        | (show W _ _ _ _ _ _; first | apply W.seq | apply W.region | apply W.block | apply W.skip | (apply W.condF; exact rfl) | (apply W.regionD tMix; kernel_rfl))
        | fail)
      refine Z.again1 ⟨by omega, fun y hy q1 => ?_⟩ ⟨rfl, rfl, rfl, rfl, trivial⟩
      rcases mem_take_snoc hx hy with hy | rfl
      · exact hq y hy q1
      · exact absurd q1 r1
  obtain rfl : k = c.t.used.length := by omega
  rw [List.take_length] at hq
  repeat' (first
    | (apply W.condKF; exact rfl; (focus (exact dec_false (by omega); done)))
    | (show WL _ _ _ _ _ _ _; first | apply WL.nil | (refine WL.au (k := ?_)))
    | (show Z _ _ _ _ _; first | apply Z.then_normal | apply Z.then_exit | apply Z.block_exit)
    | (show W _ _ _ _ _ _; first | apply W.seq | apply W.region | apply W.exit)
    | fail)
  have hno9 : ¬ NoneC c.t := by
    rintro ⟨x, h1, h2, h3⟩
    exact h3 (hq x h1 h2)
  have hgm : ∀ g ∈ c.gates.2.2, g.1 ∈ c.t.own ∧ g.2.1 ∈ c.t.used ∧ g.2.2 ∈ c.t.used := fun g hg =>
    ⟨List.mem_append.2 (.inr (List.mem_map.2 ⟨g, hg, rfl⟩)), List.mem_append.2 (.inr (List.mem_flatMap.2 ⟨g, hg, by simp⟩)), List.mem_append.2 (.inr (List.mem_flatMap.2 ⟨g, hg, by simp⟩))⟩
  have hok : gsOk c.gates.2.2 := fun g hg => by
    obtain ⟨r1, r2, r3⟩ := hgm g hg
    have := hown _ r1
    have := hused _ r2
    have := hused _ r3
    omega
  have hor : (ordL c.gates.2.2).length ≤ c.gates.2.2.length := (ordL_is c.gates.2.2).1.le
  have hcw : Cells w' gc 0 c.val.cells.toList := hcells.ext (show Ext wc w' from (by (exact extA)))
  have v6 : w'.cell? ⟨gc, 0 + 1 + 1 + 1 + 1 + 1 + 1, none⟩ = some (rowVal c.gates) := hcw.2.2.2.2.2.2.1
  repeat' (first
    | (show W _ _ (.region 30 _ _) _ _ _; apply W.regionGX (.fl true 3 (.fl false 0 (.fl false 4 (.fl true 5 (.br 1 (.fl true 2 (.fl true 6 .done)) .stop))))) [1, 2, 4, 5, 6] tMix; kernel_rfl)
    | ((show WL _ _ _ (⟨_, .call ⟨.value (.func 103), _, _⟩, _, _, _, _⟩ :: _) _ _ _); apply WL.call; (iterate 4 exact rfl); exact ref11_Order c _ (Rg.ext (by (exact extA))) hok (by omega); rintro v' w' ⟨hx, a', cap', rfl, hO⟩; (obtain ⟨hOd, rfl⟩ : ∃ x, x = hO := ⟨_, rfl⟩; obtain ⟨hxd, rfl⟩ : ∃ x, x = hx := ⟨_, rfl⟩; obtain ⟨wd, rfl⟩ : ∃ x, x = w' := ⟨_, rfl⟩; obtain ⟨ad, rfl⟩ : ∃ x, x = a' := ⟨_, rfl⟩; obtain ⟨cd, rfl⟩ : ∃ x, x = cap' := ⟨_, rfl⟩))
    | (show SX _ _ _ _ _ _ _ _ _; first | (apply SX.done; intro w' hx) | (apply SX.fl0; exact rfl) | (apply SX.fl1; exact rfl; (exact extA)) | (apply SX.br1; exact rfl; intro w' hx))
    | (show FL _ _ _ _ _ _ _ _; first | apply FL.nilX | (apply FL.loadE tOk; (iterate 5 exact rfl); (first | assumption | (focus (apply Ext.cell; rotate_left; assumption; exact extA; done)))) | (apply FL.loadAE tOk; (iterate 5 exact rfl); assumption; exact rfl))
    | (show FL _ _ _ _ _ _ _ _; (refine FL.au (k := ?_)))
    | (show Z _ _ _ _ _; (apply Z.sxE; (exact extA)))
    | (show WL _ _ _ _ _ _ _; first | apply WL.nil | (refine WL.au (k := ?_)))
    | (show Z _ _ _ _ _; first | apply Z.then_normal | apply Z.then_ret)
    | (show W _ _ _ _ _ _; first | apply W.seq | apply W.region | apply W.skip | apply W.ret | (apply W.condD; exact rfl; all_goals intro _))
    | fail)
  all_goals rename_i hlt9
  all_goals have hnl : (natI (ordL c.gates.2.2)).length = (ordL c.gates.2.2).length := by simp [natI]
  · exact Z.body1 Try.results50 rfl fun m => ⟨congrArg (Value.int IntKind.i64) (chk_8 hno5 hno7 hno9 (show (ordL c.gates.2.2).length < c.gates.2.2.length by omega)).symm, Ext.at (by (exact extA)) m⟩
  · exact Z.body1 Try.results50 rfl fun m => ⟨congrArg (Value.int IntKind.i64) (chk_0 hno5 hno7 hno9 (show ¬ (ordL c.gates.2.2).length < c.gates.2.2.length by omega)).symm, Ext.at (by (exact extA)) m⟩
end Go.Proofs.Yteidpnpbfagaeaa
namespace Go.Proofs.Yteidpnpbfagaeaa
open Go Go.Lt Go.RowKit
set_option linter.unusedVariables false
set_option linter.unusedSimpArgs false
set_option maxRecDepth 20000

abbrev fnv (f : Nat) (us : List Value) : Value := .func (.func f) #[] us.toArray
theorem slices_IndexFunc (a : Option Addr) (cap : Nat) (l : List Int) (f : Nat) (us : List Value) (p : Int → Bool) (w w0 : World) (R : Row 1 encI w0 a l) (E : Ext w0 w)
    (hf : ∀ x ∈ l, Still Try.prog f ([.int .i64 x] ++ us) w (.bool (p x))) :
    Still Try.prog 159 [.slice a l.length cap, fnv f us] w (.int .i64 (if l.findIdx p < l.length then (l.findIdx p : Int) else -1)) := by
  have hlen := R.len
  refine Spec.of _ Try.func159 rfl Try.ntmps159 (by kernel_rfl) rfl ?_
  repeat' (first
    | (show WL _ _ _ _ _ _ _; first | apply WL.nil | (refine WL.au (k := ?_)))
    | (show Z _ _ _ _ _; apply Z.then_normal)
    | (show W _ _ _ _ _ _; first | apply W.seq | apply W.region | apply W.block)
    | fail)
  refine W.loop1 l.length (fun k => k ≤ l.length ∧ ∀ i x, i < k → l[i]? = some x → p x = false) (fun k => [(0, .slice a l.length cap), (1, fnv f us), (7, .int .i64 l.length), (8, .int .i64 k)]) ⟨by omega, fun i x hi => by omega⟩ (fun k h => h.1) ⟨rfl, rfl, rfl, rfl, trivial⟩ ?_
  rintro k ⟨hk, hno⟩
  by_cases hlt : k < l.length
  · obtain ⟨x, hx⟩ := getI l hlt
    have hfx := hf x (List.mem_of_getElem? hx)
    have hlx : l[k] = x := by rw [List.getElem?_eq_getElem hlt] at hx; exact Option.some.inj hx
    cases hp : p x with
    | true =>
      rw [hp] at hfx
      repeat' (first
        | (apply W.condKT; exact rfl; (focus (exact dec_true (by omega); done)))
        | (apply WL.callS; (iterate 4 exact rfl); exact hfx)
        | (show WL _ _ _ _ _ _ _; first | apply WL.nil | (refine WL.au (k := ?_)) | (apply WL.index tOk; (iterate 8 exact rfl); assumption; (exact extA); exact rfl; omega; assumption; intro b off h; have hcc := h; first | (obtain ⟨h1, h2, h3, h4, h5, h6, _⟩ := h) | (obtain ⟨h1, h2, h3, _⟩ := h) | (obtain ⟨h1, h2, _⟩ := h) | (obtain ⟨h1, _⟩ := h)))
        | (show Z _ _ _ _ _; first | apply Z.then_normal | apply Z.then_ret | apply Z.block_ret)
        | (show W _ _ _ _ _ _; first | apply W.seq | apply W.region | apply W.block | apply W.skip | apply W.ret | (apply W.condT; exact rfl))
        | fail)
      have hi : l.findIdx p = k := by
        refine (List.findIdx_eq hlt).2 ⟨by rw [hlx]; exact hp, fun j hj => ?_⟩
        exact hno j l[j] hj (List.getElem?_eq_getElem (by omega))
      exact Z.body1 Try.results159 rfl fun m => ⟨by rw [hi, if_pos hlt], m, rfl⟩
    | false =>
      rw [hp] at hfx
      repeat' (first
        | (apply W.condKT; exact rfl; (focus (exact dec_true (by omega); done)))
        | (apply WL.callS; (iterate 4 exact rfl); exact hfx)
        | (show WL _ _ _ _ _ _ _; first | apply WL.nil | (refine WL.au (k := ?_)) | (apply WL.index tOk; (iterate 8 exact rfl); assumption; (exact extA); exact rfl; omega; assumption; intro b off h; have hcc := h; first | (obtain ⟨h1, h2, h3, h4, h5, h6, _⟩ := h) | (obtain ⟨h1, h2, h3, _⟩ := h) | (obtain ⟨h1, h2, _⟩ := h) | (obtain ⟨h1, _⟩ := h)))
        | (show Z _ _ _ _ _; first | apply Z.then_normal | apply Z.block_normal)
        | (show W _ _ _ _ _ _; first | apply W.seq | apply W.region | apply W.block | apply W.skip | (apply W.condF; exact rfl))
        | fail)
      refine Z.again1 ⟨by omega, fun i y hi hy => ?_⟩ ⟨rfl, rfl, rfl, rfl, trivial⟩
      by_cases hik : i < k
      · exact hno i y hik hy
      · obtain rfl : i = k := by omega
        rw [hx] at hy; cases hy; exact hp
  · repeat' (first
      | (apply W.condKF; exact rfl; (focus (exact dec_false (by omega); done)))
      | (show WL _ _ _ _ _ _ _; first | apply WL.nil | (refine WL.au (k := ?_)))
      | (show Z _ _ _ _ _; first | apply Z.then_normal | apply Z.then_exit | apply Z.block_exit)
      | (show W _ _ _ _ _ _; first | apply W.seq | apply W.region | apply W.ret | apply W.exit)
      | fail)
    have hi : ¬ l.findIdx p < l.length := fun h => by
      have := List.findIdx_getElem (w := h)
      rw [hno (l.findIdx p) _ (by omega) (List.getElem?_eq_getElem h)] at this
      cases this
    exact Z.body1 Try.results159 rfl fun m => ⟨by rw [if_neg hi], m, rfl⟩

end Go.Proofs.Yteidpnpbfagaeaa
namespace Go.Proofs.Yteidpnpbfagaeaa
open Go Go.Lt Go.RowKit
set_option linter.unusedVariables false
set_option linter.unusedSimpArgs false
set_option maxRecDepth 20000

abbrev kvN : Int × Int → Value := fun x => .agg (encN x).toArray
abbrev vvI : Int → Value := fun n => .int .i64 n
theorem encN_inj (a b : Int × Int) (h : encN a = encN b) : a = b := by
  simp only [encN, List.cons.injEq, Value.int.injEq, true_and, and_true] at h
  exact Prod.ext h.1 h.2
theorem keyN : KeyOk Try.prog 105 kvN := by
  apply keyOk_struct tOk encN
  · exact rfl
  · exact rfl
  · kernel_rfl
  · intro a b; exact rfl
  · intro a; exact rfl
  · exact encN_inj

/-- Where the gates of a net are, by what they are. -/
def gm (N : List (Int × Int)) : Nat → List ((Int × Int) × Int)
  | 0 => []
  | k + 1 => match N[k]? with | some x => if 0 ≤ x.1 then gm N k ++ [(x, 2 * ((k : Int) + 1))] else gm N k | none => gm N k
/-- The store that lies at gs. -/
abbrev stP (B gs : Nat) (a : Option Addr) (cap r : Nat) (N : List (Int × Int)) (M : List ((Int × Int) × Int)) : List Piece :=
  [pcell gs #[.slice a N.length cap, .map (some r)] 142, prow 2 encN 105 B a cap N, pmap kvN vvI r M]

set_option maxHeartbeats 4000000 in
theorem aig_put (gs r cap : Nat) (a : Option Addr) (N : List (Int × Int)) (M : List ((Int × Int) × Int)) (x : Int × Int) (rest : List Piece) (w w0 : World) (hX : Ext w0 w) (hS : Sep w0.heap.size w (stP w0.heap.size gs a cap r N M ++ rest)) (hN : N.length < 1048576) :
    Lt.Spec Try.prog 143 [.pointer (some ⟨gs, 0, none⟩), .agg (encN x).toArray] w (fun v w' => Ext w0 w' ∧ ∃ a' cap', v = .int .i64 (2 * ((N.length : Int) + 1)) ∧ Sep w0.heap.size w' (stP w0.heap.size gs a' cap' r (N ++ [x]) M ++ rest)) := by
  have hR1 := hS.row (i := 1) rfl
  have hC0 := hS.cell (i := 0) rfl
  have hgs := (hS.lt (i := 0) rfl rfl)
  obtain ⟨hD0, hD1, _⟩ := cells_heap hC0
  have hBC : ∀ k, blk a = some k → w0.heap.size ≤ k := fun k hk => (hR1.blk_lt k hk).1
  have hne : blk a ≠ some gs := fun h => by
    rcases hS.apart 1 0 _ _ rfl rfl (by decide) with h1 | h1
    · rw [show (prow 2 encN 105 w0.heap.size a cap N).b = blk a from rfl] at h1; rw [h1] at h; cases h
    · exact h1 h
  refine Spec.of _ Try.func143 rfl Try.ntmps143 (by kernel_rfl) rfl ?_
  repeat' (first
    | (apply WL.box; (iterate 3 exact rfl); intro gb w' hb hge hc hx; have hcc := hc; (first | (obtain ⟨h1, h2, h3, _⟩ := hc) | (obtain ⟨h1, h2, _⟩ := hc)))
    | (apply WL.nilc; (iterate 3 exact rfl))
    | (apply W.condKF; exact rfl; (focus (exact dec_false (by omega); done)))
    | (show WL _ _ _ _ _ _ _; first | apply WL.nil | (refine WL.au (k := ?_)))
    | (show Z _ _ _ _ _; apply Z.then_normal)
    | (show W _ _ _ _ _ _; first | apply W.seq | apply W.region | apply W.skip)
    | fail)
  have hx1 := hx
  obtain ⟨g3, rfl⟩ : ∃ x, x = gb := ⟨_, rfl⟩
  have hnx : blk a ≠ some g3 := fun h => by have := (hR1.blk_lt g3 h).2; omega
  have hD0' := hx1.cell hD0
  have hNl : (N ++ [x]).length = N.length + 1 := by simp
  repeat' (first
    | (apply WL.nilc; (iterate 3 exact rfl))
    | (apply FL.nilc; (iterate 3 exact rfl))
    | (apply W.regionF [0, 1, 2, 3, 4, 5] [6, 7, 8, 9] [10] (But _ (blk a)) tMix; kernel_rfl; (iterate 3 exact rfl); exact fun m => But.at _ _ m)
    | (apply WL.lit tOk; (iterate 6 exact rfl); (first | exact rfl | kernel_rfl | (simp [Instr.fill, catCells]; done)); exact rfl; intro gb w' hb hge hc hx)
    | (apply WL.append1 (z := (x)) tOk encN_ok; (iterate 10 exact rfl); assumption; (exact extA); (first | exact rfl | (focus (simp only [List.length_set]; done)) | (focus (simp; done)) | (focus (simp [*]; done)) | omega | (focus (simp only [List.length_set]; omega))); (first | assumption | (refine Cells.ext ?_ (by assumption); exact extA)); exact rfl; exact rfl; (exact extA); (first | omega | (simp; omega) | (simp at *; omega)); intro a' cap' w' hO hX' hU hF; (first | replace hS := Sep.updRow (i := 0) rfl hU hO hF hS (by (exact extA)) (by (first | exact Nat.le_refl _ | exact Below.size (by (exact extA)))) | replace hS := Sep.updRow (i := 1) rfl hU hO hF hS (by (exact extA)) (by (first | exact Nat.le_refl _ | exact Below.size (by (exact extA)))) | replace hS := Sep.updRow (i := 2) rfl hU hO hF hS (by (exact extA)) (by (first | exact Nat.le_refl _ | exact Below.size (by (exact extA)))) | replace hS := Sep.updRow (i := 3) rfl hU hO hF hS (by (exact extA)) (by (first | exact Nat.le_refl _ | exact Below.size (by (exact extA)))) | replace hS := Sep.updRow (i := 4) rfl hU hO hF hS (by (exact extA)) (by (first | exact Nat.le_refl _ | exact Below.size (by (exact extA)))) | replace hS := Sep.updRow (i := 5) rfl hU hO hF hS (by (exact extA)) (by (first | exact Nat.le_refl _ | exact Below.size (by (exact extA))))); (try simp only [List.set_cons_zero, List.set_cons_succ] at hS); (try have hR0 := hS.row (i := 0) rfl); (try have hR1 := hS.row (i := 1) rfl); (try have hR2 := hS.row (i := 2) rfl); (try have hR3 := hS.row (i := 3) rfl); (try have hR4 := hS.row (i := 4) rfl); (try have hC0 := hS.cell (i := 0) rfl); (try have hD0 := (cells_heap hC0).1); (try have hE0 := (cells_heap hC0).2.1); (try have hF0 := (cells_heap hC0).2.2.1); (try have hG0 := (cells_heap hC0).2.2.2.1); (try have hC1 := hS.cell (i := 1) rfl); (try have hD1 := (cells_heap hC1).1); (try have hE1 := (cells_heap hC1).2.1); (try have hF1 := (cells_heap hC1).2.2.1); (try have hG1 := (cells_heap hC1).2.2.2.1); (try have hC2 := hS.cell (i := 2) rfl); (try have hD2 := (cells_heap hC2).1); (try have hE2 := (cells_heap hC2).2.1); (try have hF2 := (cells_heap hC2).2.2.1); (try have hG2 := (cells_heap hC2).2.2.2.1); (try have hC3 := hS.cell (i := 3) rfl); (try have hD3 := (cells_heap hC3).1); (try have hE3 := (cells_heap hC3).2.1); (try have hF3 := (cells_heap hC3).2.2.1); (try have hG3 := (cells_heap hC3).2.2.2.1); (try have hC4 := hS.cell (i := 4) rfl); (try have hD4 := (cells_heap hC4).1); (try have hE4 := (cells_heap hC4).2.1); (try have hF4 := (cells_heap hC4).2.2.1); (try have hG4 := (cells_heap hC4).2.2.2.1); (try have hM0 := hS.map (i := 0) rfl); (try have hM1 := hS.map (i := 1) rfl); (try have hM2 := hS.map (i := 2) rfl); (try have hM3 := hS.map (i := 3) rfl); (try have hM4 := hS.map (i := 4) rfl))
    | (apply WL.storeF (w0 := w0) tOk; (iterate 4 exact rfl); assumption; (exact extA); (iterate 4 exact rfl); (exact extA); (first | assumption | omega | (focus (apply Nat.le_trans; rotate_left; assumption; exact Below.size (by (exact extA))))); intro w' hb hX' hU; replace hS := Sep.updCell (i := 0) rfl hU hb hS (by (exact extA)) (by (first | exact Nat.le_refl _ | exact Below.size (by (exact extA)))); (try simp only [List.set_cons_zero, List.set_cons_succ] at hS); (try have hR0 := hS.row (i := 0) rfl); (try have hR1 := hS.row (i := 1) rfl); (try have hR2 := hS.row (i := 2) rfl); (try have hR3 := hS.row (i := 3) rfl); (try have hR4 := hS.row (i := 4) rfl); (try have hC0 := hS.cell (i := 0) rfl); (try have hD0 := (cells_heap hC0).1); (try have hE0 := (cells_heap hC0).2.1); (try have hF0 := (cells_heap hC0).2.2.1); (try have hG0 := (cells_heap hC0).2.2.2.1); (try have hC1 := hS.cell (i := 1) rfl); (try have hD1 := (cells_heap hC1).1); (try have hE1 := (cells_heap hC1).2.1); (try have hF1 := (cells_heap hC1).2.2.1); (try have hG1 := (cells_heap hC1).2.2.2.1); (try have hC2 := hS.cell (i := 2) rfl); (try have hD2 := (cells_heap hC2).1); (try have hE2 := (cells_heap hC2).2.1); (try have hF2 := (cells_heap hC2).2.2.1); (try have hG2 := (cells_heap hC2).2.2.2.1); (try have hC3 := hS.cell (i := 3) rfl); (try have hD3 := (cells_heap hC3).1); (try have hE3 := (cells_heap hC3).2.1); (try have hF3 := (cells_heap hC3).2.2.1); (try have hG3 := (cells_heap hC3).2.2.2.1); (try have hC4 := hS.cell (i := 4) rfl); (try have hD4 := (cells_heap hC4).1); (try have hE4 := (cells_heap hC4).2.1); (try have hF4 := (cells_heap hC4).2.2.1); (try have hG4 := (cells_heap hC4).2.2.2.1); (try have hM0 := hS.map (i := 0) rfl); (try have hM1 := hS.map (i := 1) rfl); (try have hM2 := hS.map (i := 2) rfl); (try have hM3 := hS.map (i := 3) rfl); (try have hM4 := hS.map (i := 4) rfl))
    | (show WL _ _ _ _ _ _ _; first | apply WL.nil | (refine WL.au (k := ?_)))
    | (show FL _ _ _ _ _ _ _ _; first | apply FL.nil | (refine FL.au (k := ?_)) | (apply FL.load tOk; (iterate 5 exact rfl); (first | assumption | (focus (apply Ext.cell; rotate_left; assumption; (exact extA); done))); (first | (focus (intro h; cases h; done)) | (focus (intro h; have h9 := hBC _ h; (try simp only at h9); omega)) | assumption | (focus (intro h; simp only [blk, Option.map_some, Option.some.injEq] at h; omega)))) | (apply FL.loadA tOk; (iterate 5 exact rfl); (first | assumption | (focus (apply Cells.ext; rotate_left; assumption; (exact extA); done))); exact rfl; (first | (focus (intro h; cases h; done)) | (focus (intro h; have h9 := hBC _ h; (try simp only at h9); omega)) | assumption | (focus (intro h; simp only [blk, Option.map_some, Option.some.injEq] at h; omega)))))
    | (show CL _ _ _ _ _ _ _ _ _; first | apply CL.nil | apply CL.cons)
    | (show Z _ _ _ _ _; first | apply Z.only | (apply Z.early; (focus (intro m; apply But.of_at; first | exact But.upd (by assumption) | exact But.ext (by (exact extA)) | (refine But.trans ?_ (But.upd (by assumption)); exact But.ext (by (exact extA))) | exact But.at _ _ _; done))))
    | (show Z _ _ _ _ _; apply Z.then_normal)
    | (show W _ _ _ _ _ _; first | apply W.seq | apply W.region | apply W.ret)
    | fail)
  refine Z.body1 Try.results143 rfl fun m => ⟨Ext.at (by assumption) m, a', cap', ?_, hS.ext ((Ext.refl _).at m)⟩
  rw [hNl]; rfl
end Go.Proofs.Yteidpnpbfagaeaa
namespace Go.Proofs.Yteidpnpbfagaeaa
open Go Go.Lt Go.RowKit
set_option linter.unusedVariables false
set_option linter.unusedSimpArgs false
set_option maxRecDepth 20000

theorem aig_Input (gs r cap : Nat) (a : Option Addr) (N : List (Int × Int)) (M : List ((Int × Int) × Int)) (rest : List Piece) (w w0 : World) (hX : Ext w0 w) (hS : Sep w0.heap.size w (stP w0.heap.size gs a cap r N M ++ rest)) (hN : N.length < 1048576) :
    Lt.Spec Try.prog 90 [.pointer (some ⟨gs, 0, none⟩)] w (fun v w' => Ext w0 w' ∧ ∃ a' cap', v = .int .i64 (2 * ((N.length : Int) + 1)) ∧ Sep w0.heap.size w' (stP w0.heap.size gs a' cap' r (N ++ [(-1, 0)]) M ++ rest)) := by
  refine Spec.of _ Try.func90 rfl Try.ntmps90 (by kernel_rfl) rfl ?_
  repeat' (first
    | (apply WL.eqNilS tOk; (iterate 6 exact rfl))
    | (apply WL.build tOk; (iterate 7 exact rfl); kernel_rfl)
    | (((show WL _ _ _ (⟨_, .call ⟨.value (.func 143), _, _⟩, _, _, _, _⟩ :: _) _ _ _); apply WL.call; (iterate 4 exact rfl); exact aig_put gs r cap a N M (-1, 0) rest _ w0 hX hS hN; rintro v' w' ⟨hX2, a', cap', rfl, hS2⟩))
    | (show WL _ _ _ _ _ _ _; first | apply WL.nil | (refine WL.au (k := ?_)))
    | (show Z _ _ _ _ _; apply Z.then_normal)
    | (show W _ _ _ _ _ _; first | apply W.seq | apply W.region | apply W.skip | apply W.ret | (apply W.condF; exact rfl))
    | fail)
  exact Z.body1 Try.results90 rfl fun m => ⟨hX2.at m, a', cap', rfl, hS2.ext ((Ext.refl _).at m)⟩
def hasL (N : List (Int × Int)) (x : Int) : Prop := 0 ≤ x ∧ x < 2 * ((N.length : Int) + 1)
theorem aig_below (l m : Int) (w : World) (hm : 0 ≤ m ∧ m ≤ 4611686018427387903) : Still Try.prog 155 [.int .i64 l, .int .i64 m] w (.bool (dec (0 ≤ l ∧ l < 2 * m))) := by
  refine Spec.of _ Try.func155 rfl Try.ntmps155 (by kernel_rfl) rfl ?_
  repeat' (first
    | (show WL _ _ _ _ _ _ _; first | apply WL.nil | (refine WL.au (k := ?_)) | (apply WL.guardF; exact rfl; exact rfl) | (apply WL.gD; exact rfl; exact rfl; all_goals intro _))
    | (show Z _ _ _ _ _; apply Z.then_normal)
    | (show W _ _ _ _ _ _; first | apply W.seq | apply W.region | apply W.ret)
    | fail)
  all_goals (refine Z.body1 Try.results155 rfl fun m => ⟨?_, m, rfl⟩; (first | exact congrArg Value.bool (dec_true (by omega)).symm | exact congrArg Value.bool (dec_false (by omega)).symm | exact congrArg Value.bool (dec_true (by omega)) | exact congrArg Value.bool (dec_false (by omega)) | exact congrArg Value.bool (dec_congr (by omega))))
theorem aig_has1 (gs g2 cap : Nat) (a : Option Addr) (N : List (Int × Int)) (v2 : Value) (x : Int) (w : World) (hc : w.heap[gs]? = some (.cells #[.slice a N.length cap, v2] 142 (0, 0))) (h2 : w.cell? ⟨g2, 0, none⟩ = some (.pointer (some ⟨gs, 0, none⟩))) (hN : N.length ≤ 1048576) :
    Still Try.prog 154 ([.int .i64 x] ++ [.pointer (some ⟨g2, 0, none⟩)]) w (.bool (!dec (hasL N x))) := by
  obtain ⟨h1, _⟩ := cells_heap hc
  refine Spec.of _ Try.func154 rfl Try.ntmps154 (by kernel_rfl) rfl ?_
  repeat' (first
    | (apply WL.nilc; (iterate 3 exact rfl))
    | ((show WL _ _ _ (⟨_, .call ⟨.value (.func 155), _, _⟩, _, _, _, _⟩ :: _) _ _ _); apply WL.callS; (iterate 4 exact rfl); exact aig_below _ _ _ (by omega))
    | (show WL _ _ _ _ _ _ _; first | apply WL.nil | (refine WL.au (k := ?_)))
    | (show Z _ _ _ _ _; apply Z.then_normal)
    | (show W _ _ _ _ _ _; first | apply W.seq | apply W.region | apply W.ret)
    | fail)
  exact Z.body1 Try.results154 rfl fun m => ⟨rfl, m, rfl⟩
theorem slices_ContainsFunc (a : Option Addr) (cap : Nat) (l : List Int) (f : Nat) (us : List Value) (p : Int → Bool) (w w0 : World) (R : Row 1 encI w0 a l) (E : Ext w0 w)
    (hf : ∀ x ∈ l, Still Try.prog f ([.int .i64 x] ++ us) w (.bool (p x))) :
    Still Try.prog 153 [.slice a l.length cap, fnv f us] w (.bool (dec (∃ x ∈ l, p x = true))) := by
  refine Spec.of _ Try.func153 rfl Try.ntmps153 (by kernel_rfl) rfl ?_
  repeat' (first
    | ((show WL _ _ _ (⟨_, .call ⟨.value (.func 159), _, _⟩, _, _, _, _⟩ :: _) _ _ _); apply WL.callS; (iterate 4 exact rfl); exact slices_IndexFunc _ _ l f us p _ w0 R E hf)
    | (show WL _ _ _ _ _ _ _; first | apply WL.nil | (refine WL.au (k := ?_)))
    | (show Z _ _ _ _ _; apply Z.then_normal)
    | (show W _ _ _ _ _ _; first | apply W.seq | apply W.region | apply W.ret)
    | fail)
  refine Z.body1 Try.results153 rfl fun m => ⟨congrArg Value.bool (dec_congr ?_), m, rfl⟩
  by_cases h : l.findIdx p < l.length
  · rw [if_pos h]
    exact ⟨fun _ => ⟨l[l.findIdx p], List.getElem_mem h, List.findIdx_getElem⟩, fun _ => by omega⟩
  · rw [if_neg h]
    exact ⟨fun hh => by omega, fun hh => absurd (List.findIdx_lt_length_of_exists hh) h⟩
def notL (l : Int) : Int := if l < 0 then l else xor1 l
end Go.Proofs.Yteidpnpbfagaeaa
namespace Go.Proofs.Yteidpnpbfagaeaa
open Go Go.Lt Go.RowKit
set_option linter.unusedVariables false
set_option linter.unusedSimpArgs false
set_option maxRecDepth 20000

set_option maxHeartbeats 4000000 in
theorem aig_has (gs cap cl : Nat) (a al : Option Addr) (N : List (Int × Int)) (L : List Int) (v2 : Value) (w : World) (hc : w.heap[gs]? = some (.cells #[.slice a N.length cap, v2] 142 (0, 0))) (RL : Row 1 encI w al L) (hN : N.length ≤ 1048576) :
    Pure Try.prog 111 [.pointer (some ⟨gs, 0, none⟩), .slice al L.length cl] w (.bool (dec (∀ x ∈ L, hasL N x))) := by
  refine Spec.of _ Try.func111 rfl Try.ntmps111 (by kernel_rfl) rfl ?_
  repeat' (first
    | (apply WL.box; (iterate 3 exact rfl); intro gb w' hb hge hc hx; have hcc := hc; (first | (obtain ⟨h1, h2, h3, _⟩ := hc) | (obtain ⟨h1, h2, _⟩ := hc)))
    | (apply WL.neNilS tOk; (iterate 6 exact rfl))
    | ((show WL _ _ _ (⟨_, .call ⟨.value (.func 153), _, _⟩, _, _, _, _⟩ :: _) _ _ _); apply WL.callS; (iterate 4 exact rfl); exact slices_ContainsFunc _ _ L 154 [.pointer (some ⟨gb, 0, none⟩)] (fun x => !dec (hasL N x)) _ _ RL hx (fun x _ => aig_has1 gs gb cap a N v2 x _ (Ext.heap hx hc) h1 hN))
    | (show WL _ _ _ _ _ _ _; first | apply WL.nil | (refine WL.au (k := ?_)))
    | (show Z _ _ _ _ _; apply Z.then_normal)
    | (show W _ _ _ _ _ _; first | apply W.seq | apply W.region | apply W.ret)
    | fail)
  refine Z.body1 Try.results111 rfl fun m => ⟨congrArg Value.bool ?_, Ext.at (by (exact extA)) m⟩
  by_cases h : ∀ x ∈ L, hasL N x
  · rw [dec_true h, dec_false]
    · rfl
    · rintro ⟨x, hx, hp⟩; rw [dec_true (h x hx)] at hp; cases hp
  · rw [dec_false h, dec_true]
    · rfl
    · have h' : ∃ x, ¬ (x ∈ L → hasL N x) := Classical.not_forall.1 h
      obtain ⟨x, hx⟩ := h'
      have h2 : x ∈ L ∧ ¬ hasL N x := Classical.not_imp.1 hx
      exact ⟨x, h2.1, by rw [dec_false h2.2]; rfl⟩
end Go.Proofs.Yteidpnpbfagaeaa
namespace Go.Proofs.Yteidpnpbfagaeaa
open Go Go.Lt Go.RowKit
set_option linter.unusedVariables false
set_option linter.unusedSimpArgs false
set_option maxRecDepth 20000

theorem Sep.sub' {B : Nat} {w : World} {ps qs : List Piece} (f : Nat → Nat) (hS : Sep B w ps) (hf : ∀ i p, qs[i]? = some p → ps[f i]? = some p) (hi : ∀ i j, i < qs.length → j < qs.length → i ≠ j → f i ≠ f j) : Sep B w qs := by
  refine ⟨fun i p h => hS.holds _ _ (hf i p h), fun i j p q h1 h2 hne => hS.apart _ _ _ _ (hf i p h1) (hf j q h2) (hi i j ?_ ?_ hne)⟩
  · exact (List.getElem?_eq_some_iff.1 h1).1
  · exact (List.getElem?_eq_some_iff.1 h2).1
/-- The first piece goes to the end. -/
theorem Sep.rot {B : Nat} {w : World} {p : Piece} {ps : List Piece} (hS : Sep B w (p :: ps)) : Sep B w (ps ++ [p]) := by
  refine Sep.sub' (fun i => if i < ps.length then i + 1 else 0) hS (fun i q h => ?_) (fun i j hi hj hne => ?_)
  · by_cases h1 : i < ps.length
    · simp only [if_pos h1]; rw [List.getElem?_append_left h1] at h; simpa using h
    · simp only [if_neg h1]
      have h2 := (List.getElem?_eq_some_iff.1 h).1
      simp only [List.length_append, List.length_cons, List.length_nil] at h2
      have : i = ps.length := by omega
      subst this; simp at h; subst h; rfl
  · simp only [List.length_append, List.length_cons, List.length_nil] at hi hj
    show (if i < ps.length then i + 1 else 0) ≠ (if j < ps.length then j + 1 else 0)
    split <;> split <;> omega
theorem Sep.rotBack {B : Nat} {w : World} {p : Piece} {ps : List Piece} (hS : Sep B w (ps ++ [p])) : Sep B w (p :: ps) := by
  refine Sep.sub' (fun i => if i = 0 then ps.length else i - 1) hS (fun i q h => ?_) (fun i j hi hj hne => ?_)
  · cases i with
    | zero => simp at h; subst h; simp
    | succ i =>
      have h2 := (List.getElem?_eq_some_iff.1 h).1
      simp only [List.length_cons] at h2
      simp only [Nat.add_one_ne_zero, if_false, Nat.add_sub_cancel]
      rw [List.getElem?_append_left (by omega)]; simpa using h
  · simp only [List.length_cons] at hi hj
    show (if i = 0 then ps.length else i - 1) ≠ (if j = 0 then ps.length else j - 1)
    split <;> split <;> omega
theorem Sep.tail {B : Nat} {w : World} {p : Piece} {ps : List Piece} (hS : Sep B w (p :: ps)) : Sep B w ps := hS.drop 1

structure AndR where
  v : Int
  N : List (Int × Int)
  M : List ((Int × Int) × Int)
/-- The gate of two literals of which the first is not the greater. -/
noncomputable def andF (N : List (Int × Int)) (M : List ((Int × Int) × Int)) (x y : Int) : AndR :=
  bif dec (¬ (hasL N x ∧ hasL N y)) then ⟨-1, N, M⟩ else
  bif dec (x = 0 ∨ x = xor1 y) then ⟨0, N, M⟩ else
  bif dec (x = 1 ∨ x = y) then ⟨y, N, M⟩ else
  match mget (x, y) M with
  | some v => ⟨v, N, M⟩
  | none => ⟨2 * ((N.length : Int) + 1), N ++ [(x, y)], M ++ [((x, y), 2 * ((N.length : Int) + 1))]⟩

section
variable {N : List (Int × Int)} {M : List ((Int × Int) × Int)} {x y : Int}
theorem andF_no (h : ¬ (hasL N x ∧ hasL N y)) : andF N M x y = ⟨-1, N, M⟩ := by unfold andF; rw [dec_true h]; rfl
theorem andF_zero (h : hasL N x ∧ hasL N y) (h1 : x = 0 ∨ x = xor1 y) : andF N M x y = ⟨0, N, M⟩ := by unfold andF; rw [dec_false (fun hh => hh h), dec_true h1]; rfl
theorem andF_one (h : hasL N x ∧ hasL N y) (h1 : ¬ (x = 0 ∨ x = xor1 y)) (h2 : x = 1 ∨ x = y) : andF N M x y = ⟨y, N, M⟩ := by unfold andF; rw [dec_false (fun hh => hh h), dec_false h1, dec_true h2]; rfl
theorem andF_old {v : Int} (h : hasL N x ∧ hasL N y) (h1 : ¬ (x = 0 ∨ x = xor1 y)) (h2 : ¬ (x = 1 ∨ x = y)) (hm : mget (x, y) M = some v) : andF N M x y = ⟨v, N, M⟩ := by unfold andF; rw [dec_false (fun hh => hh h), dec_false h1, dec_false h2, hm]; rfl
theorem andF_new (h : hasL N x ∧ hasL N y) (h1 : ¬ (x = 0 ∨ x = xor1 y)) (h2 : ¬ (x = 1 ∨ x = y)) (hm : mget (x, y) M = none) : andF N M x y = ⟨2 * ((N.length : Int) + 1), N ++ [(x, y)], M ++ [((x, y), 2 * ((N.length : Int) + 1))]⟩ := by unfold andF; rw [dec_false (fun hh => hh h), dec_false h1, dec_false h2, hm]; rfl
end

set_option maxHeartbeats 4000000 in
theorem aig_AndLe (gs r cap : Nat) (a : Option Addr) (N : List (Int × Int)) (M : List ((Int × Int) × Int)) (x y : Int) (rest : List Piece) (w w0 : World) (hX : Ext w0 w) (hS : Sep w0.heap.size w (stP w0.heap.size gs a cap r N M ++ rest)) (hN : N.length < 1048576) (hxy : x ≤ y) :
    Lt.Spec Try.prog 113 [.pointer (some ⟨gs, 0, none⟩), .int .i64 x, .int .i64 y] w (fun v w' => Ext w0 w' ∧ ∃ a' cap', v = .int .i64 (andF N M x y).v ∧ Sep w0.heap.size w' (stP w0.heap.size gs a' cap' r (andF N M x y).N (andF N M x y).M ++ rest)) := by
  have hC0 := hS.cell (i := 0) rfl
  have hM0 := hS.map (i := 2) rfl
  have hgs := (hS.lt (i := 0) rfl rfl)
  have hr := (hS.lt (i := 2) rfl rfl)
  obtain ⟨hD0, hD1, _⟩ := cells_heap hC0
  have hall : dec (∀ z ∈ [x, y], hasL N z) = dec (hasL N x ∧ hasL N y) := dec_congr (by simp)
  rcases hm : mget (x, y) M with _ | v
  · refine Spec.of _ Try.func113 rfl Try.ntmps113 (by kernel_rfl) rfl ?_
    repeat' (first
      | (apply WL.lit tOk; (iterate 6 exact rfl); (first | exact rfl | kernel_rfl | (simp [Instr.fill, catCells]; done)); exact rfl; intro gb w' hb hge hc hx; have hO := Own.of_block ([x, y]) encI_ok hb hge rfl)
      | ((show WL _ _ _ (⟨_, .call ⟨.value (.func 111), _, _⟩, _, _, _, _⟩ :: _) _ _ _); apply WL.callP; (iterate 4 exact rfl); exact aig_has _ _ _ _ _ N [x, y] _ _ (Ext.heap (by assumption) hC0) (Own.row encI_ok (by assumption)) (by omega); intro w' hx)
      | (apply W.condKF; exact rfl; (focus (first | exact dec_true (by omega) | exact dec_false (by omega); done)))
      | ((apply WL.xor1; (iterate 4 exact rfl); (focus (have h9 := (by assumption : ∀ z ∈ [x, y], hasL N z); have h8 := h9 y (by simp); unfold hasL at h8; omega))))
      | (apply WL.build tOk; (iterate 7 exact rfl); kernel_rfl)
      | (apply WL.alloc tOk; (iterate 3 exact rfl); intro gb w' hb hge hx; replace hS := Sep.newCell (Sep.ext hS (by (exact extA))) hx hb hge (by (first | exact Nat.le_refl _ | exact Below.size (by (exact extA)))); (try simp only [List.set_cons_zero, List.set_cons_succ] at hS); (try have hR0 := hS.row (i := 0) rfl); (try have hR1 := hS.row (i := 1) rfl); (try have hR2 := hS.row (i := 2) rfl); (try have hR3 := hS.row (i := 3) rfl); (try have hR4 := hS.row (i := 4) rfl); (try have hC0 := hS.cell (i := 0) rfl); (try have hD0 := (cells_heap hC0).1); (try have hE0 := (cells_heap hC0).2.1); (try have hF0 := (cells_heap hC0).2.2.1); (try have hG0 := (cells_heap hC0).2.2.2.1); (try have hC1 := hS.cell (i := 1) rfl); (try have hD1 := (cells_heap hC1).1); (try have hE1 := (cells_heap hC1).2.1); (try have hF1 := (cells_heap hC1).2.2.1); (try have hG1 := (cells_heap hC1).2.2.2.1); (try have hC2 := hS.cell (i := 2) rfl); (try have hD2 := (cells_heap hC2).1); (try have hE2 := (cells_heap hC2).2.1); (try have hF2 := (cells_heap hC2).2.2.1); (try have hG2 := (cells_heap hC2).2.2.2.1); (try have hC3 := hS.cell (i := 3) rfl); (try have hD3 := (cells_heap hC3).1); (try have hE3 := (cells_heap hC3).2.1); (try have hF3 := (cells_heap hC3).2.2.1); (try have hG3 := (cells_heap hC3).2.2.2.1); (try have hC4 := hS.cell (i := 4) rfl); (try have hD4 := (cells_heap hC4).1); (try have hE4 := (cells_heap hC4).2.1); (try have hF4 := (cells_heap hC4).2.2.1); (try have hG4 := (cells_heap hC4).2.2.2.1); (try have hM0 := hS.map (i := 0) rfl); (try have hM1 := hS.map (i := 1) rfl); (try have hM2 := hS.map (i := 2) rfl); (try have hM3 := hS.map (i := 3) rfl); (try have hM4 := hS.map (i := 4) rfl))
      | (apply WL.storeB (w0 := w0) tOk; (iterate 4 exact rfl); assumption; (exact extA); (iterate 3 exact rfl); (exact extA); (first | assumption | omega | (focus (apply Nat.le_trans; rotate_left; assumption; exact Below.size (by (exact extA)); done))); intro w' hb hc hX' hU; have hcc := hc; obtain ⟨h1, h2, _⟩ := hc; replace hS := Sep.updCell (i := 0) rfl hU hb hS (by (exact extA)) (by (first | exact Nat.le_refl _ | exact Below.size (by (exact extA)))); (try simp only [List.set_cons_zero, List.set_cons_succ] at hS); (try have hR0 := hS.row (i := 0) rfl); (try have hR1 := hS.row (i := 1) rfl); (try have hR2 := hS.row (i := 2) rfl); (try have hR3 := hS.row (i := 3) rfl); (try have hR4 := hS.row (i := 4) rfl); (try have hC0 := hS.cell (i := 0) rfl); (try have hD0 := (cells_heap hC0).1); (try have hE0 := (cells_heap hC0).2.1); (try have hF0 := (cells_heap hC0).2.2.1); (try have hG0 := (cells_heap hC0).2.2.2.1); (try have hC1 := hS.cell (i := 1) rfl); (try have hD1 := (cells_heap hC1).1); (try have hE1 := (cells_heap hC1).2.1); (try have hF1 := (cells_heap hC1).2.2.1); (try have hG1 := (cells_heap hC1).2.2.2.1); (try have hC2 := hS.cell (i := 2) rfl); (try have hD2 := (cells_heap hC2).1); (try have hE2 := (cells_heap hC2).2.1); (try have hF2 := (cells_heap hC2).2.2.1); (try have hG2 := (cells_heap hC2).2.2.2.1); (try have hC3 := hS.cell (i := 3) rfl); (try have hD3 := (cells_heap hC3).1); (try have hE3 := (cells_heap hC3).2.1); (try have hF3 := (cells_heap hC3).2.2.1); (try have hG3 := (cells_heap hC3).2.2.2.1); (try have hC4 := hS.cell (i := 4) rfl); (try have hD4 := (cells_heap hC4).1); (try have hE4 := (cells_heap hC4).2.1); (try have hF4 := (cells_heap hC4).2.2.1); (try have hG4 := (cells_heap hC4).2.2.2.1); (try have hM0 := hS.map (i := 0) rfl); (try have hM1 := hS.map (i := 1) rfl); (try have hM2 := hS.map (i := 2) rfl); (try have hM3 := hS.map (i := 3) rfl); (try have hM4 := hS.map (i := 4) rfl))
      | (apply QL.nilc; (iterate 3 exact rfl))
      | (apply QL.lookupNone (a := (x, y)) tOk keyN; (iterate 7 exact rfl); (first | assumption | exact MapIs.ext (by assumption) (by assumption)); exact hm)
      | (show WL _ _ _ _ _ _ _; first | apply WL.nil | (refine WL.au (k := ?_)) | (apply WL.guardF; exact rfl; exact rfl) | (apply WL.gD; exact rfl; exact rfl; all_goals intro _))
      | (show QL _ _ _ _ _ _ _; first | apply QL.nil | (refine QL.au (k := ?_)))
      | (show Z _ _ _ _ _; first | apply Z.then_normal | apply Z.block_normal | apply Z.then_ret | apply Z.block_ret)
      | (show W _ _ _ _ _ _; first | apply W.seq | apply W.region | apply W.block | apply W.skip | apply W.ret | (apply W.condT; exact rfl) | (apply W.condF; exact rfl) | (apply W.condD; exact rfl; all_goals intro _) | (apply W.condN; exact rfl; all_goals intro _) | (apply W.regionD tMix; kernel_rfl))
      | fail)
    repeat' (first
      | (((show WL _ _ _ (⟨_, .call ⟨.value (.func 143), _, _⟩, _, _, _, _⟩ :: _) _ _ _); have hS9 : Lt.Sep w0.heap.size _ (stP w0.heap.size gs a cap r N M ++ (rest ++ [pcell gb _ 105])) := Sep.rot hS; apply WL.call; (iterate 4 exact rfl); exact aig_put gs r cap a N M (x, y) _ _ w0 (by (exact extA)) hS9 hN; rintro v' w'' ⟨hX2, a', cap', rfl, hS2⟩; replace hS := Sep.rotBack (ps := stP w0.heap.size gs a' cap' r (N ++ [(x, y)]) M ++ rest) hS2; (try simp only [List.set_cons_zero, List.set_cons_succ] at hS); (try have hR0 := hS.row (i := 0) rfl); (try have hR1 := hS.row (i := 1) rfl); (try have hR2 := hS.row (i := 2) rfl); (try have hR3 := hS.row (i := 3) rfl); (try have hR4 := hS.row (i := 4) rfl); (try have hC0 := hS.cell (i := 0) rfl); (try have hD0 := (cells_heap hC0).1); (try have hE0 := (cells_heap hC0).2.1); (try have hF0 := (cells_heap hC0).2.2.1); (try have hG0 := (cells_heap hC0).2.2.2.1); (try have hC1 := hS.cell (i := 1) rfl); (try have hD1 := (cells_heap hC1).1); (try have hE1 := (cells_heap hC1).2.1); (try have hF1 := (cells_heap hC1).2.2.1); (try have hG1 := (cells_heap hC1).2.2.2.1); (try have hC2 := hS.cell (i := 2) rfl); (try have hD2 := (cells_heap hC2).1); (try have hE2 := (cells_heap hC2).2.1); (try have hF2 := (cells_heap hC2).2.2.1); (try have hG2 := (cells_heap hC2).2.2.2.1); (try have hC3 := hS.cell (i := 3) rfl); (try have hD3 := (cells_heap hC3).1); (try have hE3 := (cells_heap hC3).2.1); (try have hF3 := (cells_heap hC3).2.2.1); (try have hG3 := (cells_heap hC3).2.2.2.1); (try have hC4 := hS.cell (i := 4) rfl); (try have hD4 := (cells_heap hC4).1); (try have hE4 := (cells_heap hC4).2.1); (try have hF4 := (cells_heap hC4).2.2.1); (try have hG4 := (cells_heap hC4).2.2.2.1); (try have hM0 := hS.map (i := 0) rfl); (try have hM1 := hS.map (i := 1) rfl); (try have hM2 := hS.map (i := 2) rfl); (try have hM3 := hS.map (i := 3) rfl); (try have hM4 := hS.map (i := 4) rfl); have hcc2 := cells_heap (hS.cell (i := 0) rfl)))
      | (apply W.condKT; exact rfl; (focus (exact dec_true (by omega); done)))
      | (apply W.regionQS 6 tMix; kernel_rfl; exact rfl; kernel_rfl; kernel_rfl)
      | (apply QL.nilc; (iterate 3 exact rfl))
      | ((apply WL.mapNew (B := 0) (w0 := w0) (a := (x, y)) tOk keyN; (iterate 6 exact rfl); assumption; exact hm; exact (by (exact extA)); exact hr.1; intro w9 hM9 hX9 hU9; replace hS := Sep.updMap (i := 3) rfl hU9 hM9 hS (Ext.refl _) (Below.size (by (exact extA)))))
      | (show WL _ _ _ _ _ _ _; first | apply WL.nil | (refine WL.au (k := ?_)))
      | (show QL _ _ _ _ _ _ _; first | apply QL.nil | (refine QL.au (k := ?_)))
      | (show Z _ _ _ _ _; first | apply Z.tail | apply Z.then_normal)
      | (show W _ _ _ _ _ _; first | apply W.seq | apply W.region | apply W.ret)
      | fail)
    all_goals (refine Z.body1 Try.results113 rfl fun m => ?_)
    all_goals (first
      | (rw [andF_no (fun hh => (by assumption : ¬ ∀ z ∈ [x, y], hasL N z) (by intro z hz; simp only [List.mem_cons, List.not_mem_nil, or_false] at hz; rcases hz with rfl | rfl; exact hh.1; exact hh.2))]; exact ⟨Ext.at (by (exact extA)) m, a, cap, rfl, (Sep.ext hS (by (exact extA))).ext ((Ext.refl _).at m)⟩)
      | (have h9 := (by assumption : ∀ z ∈ [x, y], hasL N z); have h8 : hasL N x ∧ hasL N y := ⟨h9 _ (by simp), h9 _ (by simp)⟩; first
        | (rw [andF_zero h8 (by omega)]; exact ⟨Ext.at (by (exact extA)) m, a, cap, rfl, (Sep.ext hS (by (exact extA))).ext ((Ext.refl _).at m)⟩)
        | (rw [andF_one h8 (by omega) (by omega)]; exact ⟨Ext.at (by (exact extA)) m, a, cap, rfl, (Sep.ext hS (by (exact extA))).ext ((Ext.refl _).at m)⟩)
        | (rw [andF_new h8 (by omega) (by omega) hm]; exact ⟨Ext.at (by (exact extA)) m, a', cap', rfl, (Sep.tail hS).ext ((Ext.refl _).at m)⟩)))
  · refine Spec.of _ Try.func113 rfl Try.ntmps113 (by kernel_rfl) rfl ?_
    repeat' (first
      | (apply WL.lit tOk; (iterate 6 exact rfl); (first | exact rfl | kernel_rfl | (simp [Instr.fill, catCells]; done)); exact rfl; intro gb w' hb hge hc hx; have hO := Own.of_block ([x, y]) encI_ok hb hge rfl)
      | ((show WL _ _ _ (⟨_, .call ⟨.value (.func 111), _, _⟩, _, _, _, _⟩ :: _) _ _ _); apply WL.callP; (iterate 4 exact rfl); exact aig_has _ _ _ _ _ N [x, y] _ _ (Ext.heap (by assumption) hC0) (Own.row encI_ok (by assumption)) (by omega); intro w' hx)
      | (apply W.condKF; exact rfl; (focus (first | exact dec_true (by omega) | exact dec_false (by omega); done)))
      | ((apply WL.xor1; (iterate 4 exact rfl); (focus (have h9 := (by assumption : ∀ z ∈ [x, y], hasL N z); have h8 := h9 y (by simp); unfold hasL at h8; omega))))
      | (apply WL.build tOk; (iterate 7 exact rfl); kernel_rfl)
      | (apply WL.alloc tOk; (iterate 3 exact rfl); intro gb w' hb hge hx; replace hS := Sep.newCell (Sep.ext hS (by (exact extA))) hx hb hge (by (first | exact Nat.le_refl _ | exact Below.size (by (exact extA)))); (try simp only [List.set_cons_zero, List.set_cons_succ] at hS); (try have hR0 := hS.row (i := 0) rfl); (try have hR1 := hS.row (i := 1) rfl); (try have hR2 := hS.row (i := 2) rfl); (try have hR3 := hS.row (i := 3) rfl); (try have hR4 := hS.row (i := 4) rfl); (try have hC0 := hS.cell (i := 0) rfl); (try have hD0 := (cells_heap hC0).1); (try have hE0 := (cells_heap hC0).2.1); (try have hF0 := (cells_heap hC0).2.2.1); (try have hG0 := (cells_heap hC0).2.2.2.1); (try have hC1 := hS.cell (i := 1) rfl); (try have hD1 := (cells_heap hC1).1); (try have hE1 := (cells_heap hC1).2.1); (try have hF1 := (cells_heap hC1).2.2.1); (try have hG1 := (cells_heap hC1).2.2.2.1); (try have hC2 := hS.cell (i := 2) rfl); (try have hD2 := (cells_heap hC2).1); (try have hE2 := (cells_heap hC2).2.1); (try have hF2 := (cells_heap hC2).2.2.1); (try have hG2 := (cells_heap hC2).2.2.2.1); (try have hC3 := hS.cell (i := 3) rfl); (try have hD3 := (cells_heap hC3).1); (try have hE3 := (cells_heap hC3).2.1); (try have hF3 := (cells_heap hC3).2.2.1); (try have hG3 := (cells_heap hC3).2.2.2.1); (try have hC4 := hS.cell (i := 4) rfl); (try have hD4 := (cells_heap hC4).1); (try have hE4 := (cells_heap hC4).2.1); (try have hF4 := (cells_heap hC4).2.2.1); (try have hG4 := (cells_heap hC4).2.2.2.1); (try have hM0 := hS.map (i := 0) rfl); (try have hM1 := hS.map (i := 1) rfl); (try have hM2 := hS.map (i := 2) rfl); (try have hM3 := hS.map (i := 3) rfl); (try have hM4 := hS.map (i := 4) rfl))
      | (apply WL.storeB (w0 := w0) tOk; (iterate 4 exact rfl); assumption; (exact extA); (iterate 3 exact rfl); (exact extA); (first | assumption | omega | (focus (apply Nat.le_trans; rotate_left; assumption; exact Below.size (by (exact extA)); done))); intro w' hb hc hX' hU; have hcc := hc; obtain ⟨h1, h2, _⟩ := hc; replace hS := Sep.updCell (i := 0) rfl hU hb hS (by (exact extA)) (by (first | exact Nat.le_refl _ | exact Below.size (by (exact extA)))); (try simp only [List.set_cons_zero, List.set_cons_succ] at hS); (try have hR0 := hS.row (i := 0) rfl); (try have hR1 := hS.row (i := 1) rfl); (try have hR2 := hS.row (i := 2) rfl); (try have hR3 := hS.row (i := 3) rfl); (try have hR4 := hS.row (i := 4) rfl); (try have hC0 := hS.cell (i := 0) rfl); (try have hD0 := (cells_heap hC0).1); (try have hE0 := (cells_heap hC0).2.1); (try have hF0 := (cells_heap hC0).2.2.1); (try have hG0 := (cells_heap hC0).2.2.2.1); (try have hC1 := hS.cell (i := 1) rfl); (try have hD1 := (cells_heap hC1).1); (try have hE1 := (cells_heap hC1).2.1); (try have hF1 := (cells_heap hC1).2.2.1); (try have hG1 := (cells_heap hC1).2.2.2.1); (try have hC2 := hS.cell (i := 2) rfl); (try have hD2 := (cells_heap hC2).1); (try have hE2 := (cells_heap hC2).2.1); (try have hF2 := (cells_heap hC2).2.2.1); (try have hG2 := (cells_heap hC2).2.2.2.1); (try have hC3 := hS.cell (i := 3) rfl); (try have hD3 := (cells_heap hC3).1); (try have hE3 := (cells_heap hC3).2.1); (try have hF3 := (cells_heap hC3).2.2.1); (try have hG3 := (cells_heap hC3).2.2.2.1); (try have hC4 := hS.cell (i := 4) rfl); (try have hD4 := (cells_heap hC4).1); (try have hE4 := (cells_heap hC4).2.1); (try have hF4 := (cells_heap hC4).2.2.1); (try have hG4 := (cells_heap hC4).2.2.2.1); (try have hM0 := hS.map (i := 0) rfl); (try have hM1 := hS.map (i := 1) rfl); (try have hM2 := hS.map (i := 2) rfl); (try have hM3 := hS.map (i := 3) rfl); (try have hM4 := hS.map (i := 4) rfl))
      | (apply QL.nilc; (iterate 3 exact rfl))
      | (apply QL.lookupSome (a := (x, y)) tOk keyN; (iterate 7 exact rfl); (first | assumption | exact MapIs.ext (by assumption) (by assumption)); exact hm)
      | (show WL _ _ _ _ _ _ _; first | apply WL.nil | (refine WL.au (k := ?_)) | (apply WL.guardF; exact rfl; exact rfl) | (apply WL.gD; exact rfl; exact rfl; all_goals intro _))
      | (show QL _ _ _ _ _ _ _; first | apply QL.nil | (refine QL.au (k := ?_)))
      | (show Z _ _ _ _ _; first | apply Z.then_normal | apply Z.block_normal | apply Z.then_ret | apply Z.block_ret)
      | (show W _ _ _ _ _ _; first | apply W.seq | apply W.region | apply W.block | apply W.skip | apply W.ret | (apply W.condT; exact rfl) | (apply W.condD; exact rfl; all_goals intro _) | (apply W.condN; exact rfl; all_goals intro _) | (apply W.regionD tMix; kernel_rfl))
      | fail)
    all_goals (refine Z.body1 Try.results113 rfl fun m => ?_)
    all_goals (first
      | (rw [andF_no (fun hh => (by assumption : ¬ ∀ z ∈ [x, y], hasL N z) (by intro z hz; simp only [List.mem_cons, List.not_mem_nil, or_false] at hz; rcases hz with rfl | rfl; exact hh.1; exact hh.2))]; exact ⟨Ext.at (by (exact extA)) m, a, cap, rfl, (Sep.ext hS (by (exact extA))).ext ((Ext.refl _).at m)⟩)
      | (have h9 := (by assumption : ∀ z ∈ [x, y], hasL N z); have h8 : hasL N x ∧ hasL N y := ⟨h9 _ (by simp), h9 _ (by simp)⟩; first
        | (rw [andF_zero h8 (by omega)]; exact ⟨Ext.at (by (exact extA)) m, a, cap, rfl, (Sep.ext hS (by (exact extA))).ext ((Ext.refl _).at m)⟩)
        | (rw [andF_one h8 (by omega) (by omega)]; exact ⟨Ext.at (by (exact extA)) m, a, cap, rfl, (Sep.ext hS (by (exact extA))).ext ((Ext.refl _).at m)⟩)
        | (rw [andF_old h8 (by omega) (by omega) hm]; exact ⟨Ext.at (by (exact extA)) m, a, cap, rfl, (Sep.tail hS).ext ((Ext.refl _).at m)⟩)))

set_option maxHeartbeats 4000000 in
theorem aig_AndGt (gs r cap : Nat) (a : Option Addr) (N : List (Int × Int)) (M : List ((Int × Int) × Int)) (x y : Int) (rest : List Piece) (w w0 : World) (hX : Ext w0 w) (hS : Sep w0.heap.size w (stP w0.heap.size gs a cap r N M ++ rest)) (hN : N.length < 1048576) (hxy : y < x) :
    Lt.Spec Try.prog 113 [.pointer (some ⟨gs, 0, none⟩), .int .i64 x, .int .i64 y] w (fun v w' => Ext w0 w' ∧ ∃ a' cap', v = .int .i64 (andF N M y x).v ∧ Sep w0.heap.size w' (stP w0.heap.size gs a' cap' r (andF N M y x).N (andF N M y x).M ++ rest)) := by
  have hC0 := hS.cell (i := 0) rfl
  have hM0 := hS.map (i := 2) rfl
  have hgs := (hS.lt (i := 0) rfl rfl)
  have hr := (hS.lt (i := 2) rfl rfl)
  obtain ⟨hD0, hD1, _⟩ := cells_heap hC0
  have hall : dec (∀ z ∈ [x, y], hasL N z) = dec (hasL N y ∧ hasL N x) := dec_congr (by simp; exact and_comm)
  rcases hm : mget (y, x) M with _ | v
  · refine Spec.of _ Try.func113 rfl Try.ntmps113 (by kernel_rfl) rfl ?_
    repeat' (first
      | (apply WL.lit tOk; (iterate 6 exact rfl); (first | exact rfl | kernel_rfl | (simp [Instr.fill, catCells]; done)); exact rfl; intro gb w' hb hge hc hx; have hO := Own.of_block ([x, y]) encI_ok hb hge rfl)
      | ((show WL _ _ _ (⟨_, .call ⟨.value (.func 111), _, _⟩, _, _, _, _⟩ :: _) _ _ _); apply WL.callP; (iterate 4 exact rfl); exact aig_has _ _ _ _ _ N [x, y] _ _ (Ext.heap (by assumption) hC0) (Own.row encI_ok (by assumption)) (by omega); intro w' hx)
      | (apply W.condKT; exact rfl; (focus (first | exact dec_true (by omega) | exact dec_false (by omega); done)))
      | (apply W.condKF; exact rfl; (focus (first | exact dec_true (by omega) | exact dec_false (by omega); done)))
      | ((apply WL.xor1; (iterate 4 exact rfl); (focus (have h9 := (by assumption : ∀ z ∈ [x, y], hasL N z); have h8 := h9 x (by simp); unfold hasL at h8; omega))))
      | (apply WL.build tOk; (iterate 7 exact rfl); kernel_rfl)
      | (apply WL.alloc tOk; (iterate 3 exact rfl); intro gb w' hb hge hx; replace hS := Sep.newCell (Sep.ext hS (by (exact extA))) hx hb hge (by (first | exact Nat.le_refl _ | exact Below.size (by (exact extA)))); (try simp only [List.set_cons_zero, List.set_cons_succ] at hS); (try have hR0 := hS.row (i := 0) rfl); (try have hR1 := hS.row (i := 1) rfl); (try have hR2 := hS.row (i := 2) rfl); (try have hR3 := hS.row (i := 3) rfl); (try have hR4 := hS.row (i := 4) rfl); (try have hC0 := hS.cell (i := 0) rfl); (try have hD0 := (cells_heap hC0).1); (try have hE0 := (cells_heap hC0).2.1); (try have hF0 := (cells_heap hC0).2.2.1); (try have hG0 := (cells_heap hC0).2.2.2.1); (try have hC1 := hS.cell (i := 1) rfl); (try have hD1 := (cells_heap hC1).1); (try have hE1 := (cells_heap hC1).2.1); (try have hF1 := (cells_heap hC1).2.2.1); (try have hG1 := (cells_heap hC1).2.2.2.1); (try have hC2 := hS.cell (i := 2) rfl); (try have hD2 := (cells_heap hC2).1); (try have hE2 := (cells_heap hC2).2.1); (try have hF2 := (cells_heap hC2).2.2.1); (try have hG2 := (cells_heap hC2).2.2.2.1); (try have hC3 := hS.cell (i := 3) rfl); (try have hD3 := (cells_heap hC3).1); (try have hE3 := (cells_heap hC3).2.1); (try have hF3 := (cells_heap hC3).2.2.1); (try have hG3 := (cells_heap hC3).2.2.2.1); (try have hC4 := hS.cell (i := 4) rfl); (try have hD4 := (cells_heap hC4).1); (try have hE4 := (cells_heap hC4).2.1); (try have hF4 := (cells_heap hC4).2.2.1); (try have hG4 := (cells_heap hC4).2.2.2.1); (try have hM0 := hS.map (i := 0) rfl); (try have hM1 := hS.map (i := 1) rfl); (try have hM2 := hS.map (i := 2) rfl); (try have hM3 := hS.map (i := 3) rfl); (try have hM4 := hS.map (i := 4) rfl))
      | (apply WL.storeB (w0 := w0) tOk; (iterate 4 exact rfl); assumption; (exact extA); (iterate 3 exact rfl); (exact extA); (first | assumption | omega | (focus (apply Nat.le_trans; rotate_left; assumption; exact Below.size (by (exact extA)); done))); intro w' hb hc hX' hU; have hcc := hc; obtain ⟨h1, h2, _⟩ := hc; replace hS := Sep.updCell (i := 0) rfl hU hb hS (by (exact extA)) (by (first | exact Nat.le_refl _ | exact Below.size (by (exact extA)))); (try simp only [List.set_cons_zero, List.set_cons_succ] at hS); (try have hR0 := hS.row (i := 0) rfl); (try have hR1 := hS.row (i := 1) rfl); (try have hR2 := hS.row (i := 2) rfl); (try have hR3 := hS.row (i := 3) rfl); (try have hR4 := hS.row (i := 4) rfl); (try have hC0 := hS.cell (i := 0) rfl); (try have hD0 := (cells_heap hC0).1); (try have hE0 := (cells_heap hC0).2.1); (try have hF0 := (cells_heap hC0).2.2.1); (try have hG0 := (cells_heap hC0).2.2.2.1); (try have hC1 := hS.cell (i := 1) rfl); (try have hD1 := (cells_heap hC1).1); (try have hE1 := (cells_heap hC1).2.1); (try have hF1 := (cells_heap hC1).2.2.1); (try have hG1 := (cells_heap hC1).2.2.2.1); (try have hC2 := hS.cell (i := 2) rfl); (try have hD2 := (cells_heap hC2).1); (try have hE2 := (cells_heap hC2).2.1); (try have hF2 := (cells_heap hC2).2.2.1); (try have hG2 := (cells_heap hC2).2.2.2.1); (try have hC3 := hS.cell (i := 3) rfl); (try have hD3 := (cells_heap hC3).1); (try have hE3 := (cells_heap hC3).2.1); (try have hF3 := (cells_heap hC3).2.2.1); (try have hG3 := (cells_heap hC3).2.2.2.1); (try have hC4 := hS.cell (i := 4) rfl); (try have hD4 := (cells_heap hC4).1); (try have hE4 := (cells_heap hC4).2.1); (try have hF4 := (cells_heap hC4).2.2.1); (try have hG4 := (cells_heap hC4).2.2.2.1); (try have hM0 := hS.map (i := 0) rfl); (try have hM1 := hS.map (i := 1) rfl); (try have hM2 := hS.map (i := 2) rfl); (try have hM3 := hS.map (i := 3) rfl); (try have hM4 := hS.map (i := 4) rfl))
      | (apply QL.nilc; (iterate 3 exact rfl))
      | (apply QL.lookupNone (a := (y, x)) tOk keyN; (iterate 7 exact rfl); (first | assumption | exact MapIs.ext (by assumption) (by assumption)); exact hm)
      | (show WL _ _ _ _ _ _ _; first | apply WL.nil | (refine WL.au (k := ?_)) | (apply WL.guardF; exact rfl; exact rfl) | (apply WL.gD; exact rfl; exact rfl; all_goals intro _))
      | (show QL _ _ _ _ _ _ _; first | apply QL.nil | (refine QL.au (k := ?_)))
      | (show Z _ _ _ _ _; first | apply Z.then_normal | apply Z.block_normal | apply Z.then_ret | apply Z.block_ret)
      | (show W _ _ _ _ _ _; first | apply W.seq | apply W.region | apply W.block | apply W.skip | apply W.ret | (apply W.condT; exact rfl) | (apply W.condF; exact rfl) | (apply W.condD; exact rfl; all_goals intro _) | (apply W.condN; exact rfl; all_goals intro _) | (apply W.regionD tMix; kernel_rfl))
      | fail)
    repeat' (first
      | (((show WL _ _ _ (⟨_, .call ⟨.value (.func 143), _, _⟩, _, _, _, _⟩ :: _) _ _ _); have hS9 : Lt.Sep w0.heap.size _ (stP w0.heap.size gs a cap r N M ++ (rest ++ [pcell gb _ 105])) := Sep.rot hS; apply WL.call; (iterate 4 exact rfl); exact aig_put gs r cap a N M (y, x) _ _ w0 (by (exact extA)) hS9 hN; rintro v' w'' ⟨hX2, a', cap', rfl, hS2⟩; replace hS := Sep.rotBack (ps := stP w0.heap.size gs a' cap' r (N ++ [(y, x)]) M ++ rest) hS2; (try simp only [List.set_cons_zero, List.set_cons_succ] at hS); (try have hR0 := hS.row (i := 0) rfl); (try have hR1 := hS.row (i := 1) rfl); (try have hR2 := hS.row (i := 2) rfl); (try have hR3 := hS.row (i := 3) rfl); (try have hR4 := hS.row (i := 4) rfl); (try have hC0 := hS.cell (i := 0) rfl); (try have hD0 := (cells_heap hC0).1); (try have hE0 := (cells_heap hC0).2.1); (try have hF0 := (cells_heap hC0).2.2.1); (try have hG0 := (cells_heap hC0).2.2.2.1); (try have hC1 := hS.cell (i := 1) rfl); (try have hD1 := (cells_heap hC1).1); (try have hE1 := (cells_heap hC1).2.1); (try have hF1 := (cells_heap hC1).2.2.1); (try have hG1 := (cells_heap hC1).2.2.2.1); (try have hC2 := hS.cell (i := 2) rfl); (try have hD2 := (cells_heap hC2).1); (try have hE2 := (cells_heap hC2).2.1); (try have hF2 := (cells_heap hC2).2.2.1); (try have hG2 := (cells_heap hC2).2.2.2.1); (try have hC3 := hS.cell (i := 3) rfl); (try have hD3 := (cells_heap hC3).1); (try have hE3 := (cells_heap hC3).2.1); (try have hF3 := (cells_heap hC3).2.2.1); (try have hG3 := (cells_heap hC3).2.2.2.1); (try have hC4 := hS.cell (i := 4) rfl); (try have hD4 := (cells_heap hC4).1); (try have hE4 := (cells_heap hC4).2.1); (try have hF4 := (cells_heap hC4).2.2.1); (try have hG4 := (cells_heap hC4).2.2.2.1); (try have hM0 := hS.map (i := 0) rfl); (try have hM1 := hS.map (i := 1) rfl); (try have hM2 := hS.map (i := 2) rfl); (try have hM3 := hS.map (i := 3) rfl); (try have hM4 := hS.map (i := 4) rfl); have hcc2 := cells_heap (hS.cell (i := 0) rfl)))
      | (apply W.condKT; exact rfl; (focus (exact dec_true (by omega); done)))
      | (apply W.regionQS 6 tMix; kernel_rfl; exact rfl; kernel_rfl; kernel_rfl)
      | (apply QL.nilc; (iterate 3 exact rfl))
      | ((apply WL.mapNew (B := 0) (w0 := w0) (a := (y, x)) tOk keyN; (iterate 6 exact rfl); assumption; exact hm; exact (by (exact extA)); exact hr.1; intro w9 hM9 hX9 hU9; replace hS := Sep.updMap (i := 3) rfl hU9 hM9 hS (Ext.refl _) (Below.size (by (exact extA)))))
      | (show WL _ _ _ _ _ _ _; first | apply WL.nil | (refine WL.au (k := ?_)))
      | (show QL _ _ _ _ _ _ _; first | apply QL.nil | (refine QL.au (k := ?_)))
      | (show Z _ _ _ _ _; first | apply Z.tail | apply Z.then_normal)
      | (show W _ _ _ _ _ _; first | apply W.seq | apply W.region | apply W.ret)
      | fail)
    all_goals (refine Z.body1 Try.results113 rfl fun m => ?_)
    all_goals (first
      | (rw [andF_no (fun hh => (by assumption : ¬ ∀ z ∈ [x, y], hasL N z) (by intro z hz; simp only [List.mem_cons, List.not_mem_nil, or_false] at hz; rcases hz with rfl | rfl; exact hh.2; exact hh.1))]; exact ⟨Ext.at (by (exact extA)) m, a, cap, rfl, (Sep.ext hS (by (exact extA))).ext ((Ext.refl _).at m)⟩)
      | (have h9 := (by assumption : ∀ z ∈ [x, y], hasL N z); have h8 : hasL N y ∧ hasL N x := ⟨h9 _ (by simp), h9 _ (by simp)⟩; first
        | (rw [andF_zero h8 (by omega)]; exact ⟨Ext.at (by (exact extA)) m, a, cap, rfl, (Sep.ext hS (by (exact extA))).ext ((Ext.refl _).at m)⟩)
        | (rw [andF_one h8 (by omega) (by omega)]; exact ⟨Ext.at (by (exact extA)) m, a, cap, rfl, (Sep.ext hS (by (exact extA))).ext ((Ext.refl _).at m)⟩)
        | (rw [andF_new h8 (by omega) (by omega) hm]; exact ⟨Ext.at (by (exact extA)) m, a', cap', rfl, (Sep.tail hS).ext ((Ext.refl _).at m)⟩)))
  · refine Spec.of _ Try.func113 rfl Try.ntmps113 (by kernel_rfl) rfl ?_
    repeat' (first
      | (apply WL.lit tOk; (iterate 6 exact rfl); (first | exact rfl | kernel_rfl | (simp [Instr.fill, catCells]; done)); exact rfl; intro gb w' hb hge hc hx; have hO := Own.of_block ([x, y]) encI_ok hb hge rfl)
      | ((show WL _ _ _ (⟨_, .call ⟨.value (.func 111), _, _⟩, _, _, _, _⟩ :: _) _ _ _); apply WL.callP; (iterate 4 exact rfl); exact aig_has _ _ _ _ _ N [x, y] _ _ (Ext.heap (by assumption) hC0) (Own.row encI_ok (by assumption)) (by omega); intro w' hx)
      | (apply W.condKT; exact rfl; (focus (first | exact dec_true (by omega) | exact dec_false (by omega); done)))
      | (apply W.condKF; exact rfl; (focus (first | exact dec_true (by omega) | exact dec_false (by omega); done)))
      | ((apply WL.xor1; (iterate 4 exact rfl); (focus (have h9 := (by assumption : ∀ z ∈ [x, y], hasL N z); have h8 := h9 x (by simp); unfold hasL at h8; omega))))
      | (apply WL.build tOk; (iterate 7 exact rfl); kernel_rfl)
      | (apply WL.alloc tOk; (iterate 3 exact rfl); intro gb w' hb hge hx; replace hS := Sep.newCell (Sep.ext hS (by (exact extA))) hx hb hge (by (first | exact Nat.le_refl _ | exact Below.size (by (exact extA)))); (try simp only [List.set_cons_zero, List.set_cons_succ] at hS); (try have hR0 := hS.row (i := 0) rfl); (try have hR1 := hS.row (i := 1) rfl); (try have hR2 := hS.row (i := 2) rfl); (try have hR3 := hS.row (i := 3) rfl); (try have hR4 := hS.row (i := 4) rfl); (try have hC0 := hS.cell (i := 0) rfl); (try have hD0 := (cells_heap hC0).1); (try have hE0 := (cells_heap hC0).2.1); (try have hF0 := (cells_heap hC0).2.2.1); (try have hG0 := (cells_heap hC0).2.2.2.1); (try have hC1 := hS.cell (i := 1) rfl); (try have hD1 := (cells_heap hC1).1); (try have hE1 := (cells_heap hC1).2.1); (try have hF1 := (cells_heap hC1).2.2.1); (try have hG1 := (cells_heap hC1).2.2.2.1); (try have hC2 := hS.cell (i := 2) rfl); (try have hD2 := (cells_heap hC2).1); (try have hE2 := (cells_heap hC2).2.1); (try have hF2 := (cells_heap hC2).2.2.1); (try have hG2 := (cells_heap hC2).2.2.2.1); (try have hC3 := hS.cell (i := 3) rfl); (try have hD3 := (cells_heap hC3).1); (try have hE3 := (cells_heap hC3).2.1); (try have hF3 := (cells_heap hC3).2.2.1); (try have hG3 := (cells_heap hC3).2.2.2.1); (try have hC4 := hS.cell (i := 4) rfl); (try have hD4 := (cells_heap hC4).1); (try have hE4 := (cells_heap hC4).2.1); (try have hF4 := (cells_heap hC4).2.2.1); (try have hG4 := (cells_heap hC4).2.2.2.1); (try have hM0 := hS.map (i := 0) rfl); (try have hM1 := hS.map (i := 1) rfl); (try have hM2 := hS.map (i := 2) rfl); (try have hM3 := hS.map (i := 3) rfl); (try have hM4 := hS.map (i := 4) rfl))
      | (apply WL.storeB (w0 := w0) tOk; (iterate 4 exact rfl); assumption; (exact extA); (iterate 3 exact rfl); (exact extA); (first | assumption | omega | (focus (apply Nat.le_trans; rotate_left; assumption; exact Below.size (by (exact extA)); done))); intro w' hb hc hX' hU; have hcc := hc; obtain ⟨h1, h2, _⟩ := hc; replace hS := Sep.updCell (i := 0) rfl hU hb hS (by (exact extA)) (by (first | exact Nat.le_refl _ | exact Below.size (by (exact extA)))); (try simp only [List.set_cons_zero, List.set_cons_succ] at hS); (try have hR0 := hS.row (i := 0) rfl); (try have hR1 := hS.row (i := 1) rfl); (try have hR2 := hS.row (i := 2) rfl); (try have hR3 := hS.row (i := 3) rfl); (try have hR4 := hS.row (i := 4) rfl); (try have hC0 := hS.cell (i := 0) rfl); (try have hD0 := (cells_heap hC0).1); (try have hE0 := (cells_heap hC0).2.1); (try have hF0 := (cells_heap hC0).2.2.1); (try have hG0 := (cells_heap hC0).2.2.2.1); (try have hC1 := hS.cell (i := 1) rfl); (try have hD1 := (cells_heap hC1).1); (try have hE1 := (cells_heap hC1).2.1); (try have hF1 := (cells_heap hC1).2.2.1); (try have hG1 := (cells_heap hC1).2.2.2.1); (try have hC2 := hS.cell (i := 2) rfl); (try have hD2 := (cells_heap hC2).1); (try have hE2 := (cells_heap hC2).2.1); (try have hF2 := (cells_heap hC2).2.2.1); (try have hG2 := (cells_heap hC2).2.2.2.1); (try have hC3 := hS.cell (i := 3) rfl); (try have hD3 := (cells_heap hC3).1); (try have hE3 := (cells_heap hC3).2.1); (try have hF3 := (cells_heap hC3).2.2.1); (try have hG3 := (cells_heap hC3).2.2.2.1); (try have hC4 := hS.cell (i := 4) rfl); (try have hD4 := (cells_heap hC4).1); (try have hE4 := (cells_heap hC4).2.1); (try have hF4 := (cells_heap hC4).2.2.1); (try have hG4 := (cells_heap hC4).2.2.2.1); (try have hM0 := hS.map (i := 0) rfl); (try have hM1 := hS.map (i := 1) rfl); (try have hM2 := hS.map (i := 2) rfl); (try have hM3 := hS.map (i := 3) rfl); (try have hM4 := hS.map (i := 4) rfl))
      | (apply QL.nilc; (iterate 3 exact rfl))
      | (apply QL.lookupSome (a := (y, x)) tOk keyN; (iterate 7 exact rfl); (first | assumption | exact MapIs.ext (by assumption) (by assumption)); exact hm)
      | (show WL _ _ _ _ _ _ _; first | apply WL.nil | (refine WL.au (k := ?_)) | (apply WL.guardF; exact rfl; exact rfl) | (apply WL.gD; exact rfl; exact rfl; all_goals intro _))
      | (show QL _ _ _ _ _ _ _; first | apply QL.nil | (refine QL.au (k := ?_)))
      | (show Z _ _ _ _ _; first | apply Z.then_normal | apply Z.block_normal | apply Z.then_ret | apply Z.block_ret)
      | (show W _ _ _ _ _ _; first | apply W.seq | apply W.region | apply W.block | apply W.skip | apply W.ret | (apply W.condT; exact rfl) | (apply W.condD; exact rfl; all_goals intro _) | (apply W.condN; exact rfl; all_goals intro _) | (apply W.regionD tMix; kernel_rfl))
      | fail)
    all_goals (refine Z.body1 Try.results113 rfl fun m => ?_)
    all_goals (first
      | (rw [andF_no (fun hh => (by assumption : ¬ ∀ z ∈ [x, y], hasL N z) (by intro z hz; simp only [List.mem_cons, List.not_mem_nil, or_false] at hz; rcases hz with rfl | rfl; exact hh.2; exact hh.1))]; exact ⟨Ext.at (by (exact extA)) m, a, cap, rfl, (Sep.ext hS (by (exact extA))).ext ((Ext.refl _).at m)⟩)
      | (have h9 := (by assumption : ∀ z ∈ [x, y], hasL N z); have h8 : hasL N y ∧ hasL N x := ⟨h9 _ (by simp), h9 _ (by simp)⟩; first
        | (rw [andF_zero h8 (by omega)]; exact ⟨Ext.at (by (exact extA)) m, a, cap, rfl, (Sep.ext hS (by (exact extA))).ext ((Ext.refl _).at m)⟩)
        | (rw [andF_one h8 (by omega) (by omega)]; exact ⟨Ext.at (by (exact extA)) m, a, cap, rfl, (Sep.ext hS (by (exact extA))).ext ((Ext.refl _).at m)⟩)
        | (rw [andF_old h8 (by omega) (by omega) hm]; exact ⟨Ext.at (by (exact extA)) m, a, cap, rfl, (Sep.tail hS).ext ((Ext.refl _).at m)⟩)))
end Go.Proofs.Yteidpnpbfagaeaa
namespace Go.Proofs.Yteidpnpbfagaeaa
open Go Go.Lt Go.RowKit
set_option linter.unusedVariables false
set_option linter.unusedSimpArgs false
set_option maxRecDepth 20000

theorem mget_snoc {κ ν : Type} (p q : κ) (v : ν) : ∀ L : List (κ × ν), mget p (L ++ [(q, v)]) = match mget p L with | some u => some u | none => bif dec (p = q) then some v else none
  | [] => by simp [mget]
  | x :: r => by
    have ih := mget_snoc p q v r
    simp only [List.cons_append, mget]
    cases dec (p = x.1)
    · exact ih
    · rfl
theorem gm_app (N L : List (Int × Int)) : ∀ k, k ≤ N.length → gm (N ++ L) k = gm N k
  | 0, _ => rfl
  | k + 1, h => by
    obtain ⟨x, hx⟩ := getI N (show k < N.length by omega)
    have ih := gm_app N L k (by omega)
    have hx' : (N ++ L)[k]? = some x := by rw [List.getElem?_append_left (by omega)]; exact hx
    rw [gm, gm, hx, hx', ih]
theorem gm_snoc_gate (N : List (Int × Int)) {x : Int × Int} (h : 0 ≤ x.1) : gm (N ++ [x]) (N ++ [x]).length = gm N N.length ++ [(x, 2 * ((N.length : Int) + 1))] := by
  rw [show (N ++ [x]).length = N.length + 1 by simp, gm]
  have hx : (N ++ [x])[N.length]? = some x := by simp
  rw [hx, gm_app N [x] _ (Nat.le_refl _)]
  exact if_pos h
theorem gm_snoc_in (N : List (Int × Int)) {x : Int × Int} (h : ¬ 0 ≤ x.1) : gm (N ++ [x]) (N ++ [x]).length = gm N N.length := by
  rw [show (N ++ [x]).length = N.length + 1 by simp, gm]
  have hx : (N ++ [x])[N.length]? = some x := by simp
  rw [hx, gm_app N [x] _ (Nat.le_refl _)]
  exact if_neg h
theorem gm_none {N : List (Int × Int)} {p : Int × Int} : ∀ k, (∀ j : Nat, j < k → N[j]? ≠ some p) → mget p (gm N k) = none
  | 0, _ => rfl
  | k + 1, h => by
    have ih := gm_none k (fun j hj => h j (by omega))
    rw [gm]
    cases hx : N[k]? with
    | none => exact ih
    | some x =>
      show mget p (if 0 ≤ x.1 then _ else _) = none
      split
      · rw [mget_snoc, ih]
        show (bif dec (p = x) then _ else _) = _
        rw [dec_false (fun hh => h k (by omega) (by rw [hx, hh]))]; rfl
      · exact ih
theorem gm_some {N : List (Int × Int)} {p : Int × Int} (hp : 0 ≤ p.1) {i : Nat} (hi : N[i]? = some p) (h : ∀ j : Nat, j < i → N[j]? ≠ some p) : ∀ k, i < k → mget p (gm N k) = some (2 * ((i : Int) + 1))
  | 0, hk => by omega
  | k + 1, hk => by
    rw [gm]
    by_cases hik : i = k
    · subst hik
      rw [hi]
      show mget p (if 0 ≤ p.1 then _ else _) = _
      rw [if_pos hp, mget_snoc, gm_none i h]
      show (bif dec (p = p) then _ else _) = _
      rw [dec_true rfl]; rfl
    · have ih := gm_some hp hi h k (by omega)
      cases hx : N[k]? with
      | none => exact ih
      | some x =>
        show mget p (if 0 ≤ x.1 then _ else _) = _
        split
        · rw [mget_snoc, ih]
        · exact ih
theorem first_of {N : List (Int × Int)} {p : Int × Int} : ∀ k, (∀ j : Nat, j < k → N[j]? ≠ some p) ∨ ∃ i, i < k ∧ N[i]? = some p ∧ ∀ j : Nat, j < i → N[j]? ≠ some p
  | 0 => .inl fun j h => by omega
  | k + 1 => by
    rcases first_of (N := N) (p := p) k with h | ⟨i, h1, h2, h3⟩
    · by_cases hk : N[k]? = some p
      · exact .inr ⟨k, by omega, hk, h⟩
      · exact .inl fun j hj => by
          by_cases hjk : j = k
          · subst hjk; exact hk
          · exact h j (by omega)
    · exact .inr ⟨i, by omega, h2, h3⟩

/-- The map of a store with these nodes. -/
abbrev gmN (N : List (Int × Int)) : List ((Int × Int) × Int) := gm N N.length
abbrev stN (B gs : Nat) (a : Option Addr) (cap r : Nat) (N : List (Int × Int)) : List Piece := stP B gs a cap r N (gmN N)
/-- And: what is told, and the nodes then. -/
noncomputable def andV (N : List (Int × Int)) (x y : Int) : Int × List (Int × Int) := if x ≤ y then ((andF N (gmN N) x y).v, (andF N (gmN N) x y).N) else ((andF N (gmN N) y x).v, (andF N (gmN N) y x).N)

/-- The five ways of And of two of which the first is not the greater. -/
theorem andF_ways {N : List (Int × Int)} {x y : Int} (hxy : x ≤ y) :
    (¬ (hasL N x ∧ hasL N y) ∧ andF N (gmN N) x y = ⟨-1, N, gmN N⟩) ∨
    ((hasL N x ∧ hasL N y) ∧ (x = 0 ∨ x = Lt.xor1 y) ∧ andF N (gmN N) x y = ⟨0, N, gmN N⟩) ∨
    ((hasL N x ∧ hasL N y) ∧ ¬ (x = 0 ∨ x = Lt.xor1 y) ∧ (x = 1 ∨ x = y) ∧ andF N (gmN N) x y = ⟨y, N, gmN N⟩) ∨
    ((hasL N x ∧ hasL N y) ∧ (2 ≤ x ∧ x / 2 < y / 2) ∧ (∃ i : Nat, i < N.length ∧ N[i]? = some (x, y) ∧ (∀ j : Nat, j < i → N[j]? ≠ some (x, y)) ∧ andF N (gmN N) x y = ⟨2 * ((i : Int) + 1), N, gmN N⟩)) ∨
    ((hasL N x ∧ hasL N y) ∧ (2 ≤ x ∧ x / 2 < y / 2) ∧ (∀ j : Nat, N[j]? ≠ some (x, y)) ∧ andF N (gmN N) x y = ⟨2 * ((N.length : Int) + 1), N ++ [(x, y)], gmN (N ++ [(x, y)])⟩) := by
  by_cases h : hasL N x ∧ hasL N y
  · by_cases h1 : x = 0 ∨ x = Lt.xor1 y
    · exact .inr (.inl ⟨h, h1, andF_zero h h1⟩)
    · by_cases h2 : x = 1 ∨ x = y
      · exact .inr (.inr (.inl ⟨h, h1, h2, andF_one h h1 h2⟩))
      · have hb : 2 ≤ x ∧ x / 2 < y / 2 := by
          have := h.1.1
          have h3 : x ≠ Lt.xor1 y := fun hh => h1 (.inr hh)
          unfold Lt.xor1 at h3
          split at h3 <;> omega
        rcases first_of (N := N) (p := (x, y)) N.length with hn | ⟨i, i1, i2, i3⟩
        · refine .inr (.inr (.inr (.inr ⟨h, hb, fun j => ?_, ?_⟩)))
          · by_cases hj : j < N.length
            · exact hn j hj
            · rw [List.getElem?_eq_none (by omega)]; exact fun hh => by cases hh
          · rw [andF_new h h1 h2 (gm_none _ hn)]
            show _ = AndR.mk _ _ (gm (N ++ [(x, y)]) (N ++ [(x, y)]).length)
            rw [gm_snoc_gate N (x := (x, y)) (by show 0 ≤ x; omega)]
        · exact .inr (.inr (.inr (.inl ⟨h, hb, i, i1, i2, i3, andF_old h h1 h2 (gm_some (by show 0 ≤ x; omega) i2 i3 _ i1)⟩)))
  · exact .inl ⟨h, andF_no h⟩
theorem andF_M {N : List (Int × Int)} {x y : Int} (hxy : x ≤ y) : (andF N (gmN N) x y).M = gmN (andF N (gmN N) x y).N := by
  rcases andF_ways (N := N) hxy with ⟨_, h⟩ | ⟨_, _, h⟩ | ⟨_, _, _, h⟩ | ⟨_, _, _, _, _, _, h⟩ | ⟨_, _, _, h⟩ <;> rw [h]

/-- What comes of nodes by Inputs and Ands. -/
inductive Grow : List (Int × Int) → List (Int × Int) → Prop
  | refl (N) : Grow N N
  | input {N M} : Grow N M → Grow N (M ++ [(-1, 0)])
  | gate {N M} (x y : Int) : Grow N M → Grow N (andV M x y).2
theorem Grow.trans {N M K : List (Int × Int)} (h : Grow N M) (k : Grow M K) : Grow N K := by
  induction k with
  | refl => exact h
  | input _ ih => exact .input ih
  | gate x y _ ih => exact .gate x y ih
theorem andV_ways (N : List (Int × Int)) (x y : Int) : ∃ a b : Int, ((a = x ∧ b = y) ∨ (a = y ∧ b = x)) ∧ a ≤ b ∧
    ((¬ (hasL N a ∧ hasL N b) ∧ andV N x y = (-1, N)) ∨
    ((hasL N a ∧ hasL N b) ∧ (a = 0 ∨ a = Lt.xor1 b) ∧ andV N x y = (0, N)) ∨
    ((hasL N a ∧ hasL N b) ∧ ¬ (a = 0 ∨ a = Lt.xor1 b) ∧ (a = 1 ∨ a = b) ∧ andV N x y = (b, N)) ∨
    ((hasL N a ∧ hasL N b) ∧ (2 ≤ a ∧ a / 2 < b / 2) ∧ (∃ i : Nat, i < N.length ∧ N[i]? = some (a, b) ∧ (∀ j : Nat, j < i → N[j]? ≠ some (a, b)) ∧ andV N x y = (2 * ((i : Int) + 1), N))) ∨
    ((hasL N a ∧ hasL N b) ∧ (2 ≤ a ∧ a / 2 < b / 2) ∧ (∀ j : Nat, N[j]? ≠ some (a, b)) ∧ andV N x y = (2 * ((N.length : Int) + 1), N ++ [(a, b)]))) := by
  have key : ∀ a b : Int, a ≤ b → andV N x y = ((andF N (gmN N) a b).v, (andF N (gmN N) a b).N) →
    ((¬ (hasL N a ∧ hasL N b) ∧ andV N x y = (-1, N)) ∨
    ((hasL N a ∧ hasL N b) ∧ (a = 0 ∨ a = Lt.xor1 b) ∧ andV N x y = (0, N)) ∨
    ((hasL N a ∧ hasL N b) ∧ ¬ (a = 0 ∨ a = Lt.xor1 b) ∧ (a = 1 ∨ a = b) ∧ andV N x y = (b, N)) ∨
    ((hasL N a ∧ hasL N b) ∧ (2 ≤ a ∧ a / 2 < b / 2) ∧ (∃ i : Nat, i < N.length ∧ N[i]? = some (a, b) ∧ (∀ j : Nat, j < i → N[j]? ≠ some (a, b)) ∧ andV N x y = (2 * ((i : Int) + 1), N))) ∨
    ((hasL N a ∧ hasL N b) ∧ (2 ≤ a ∧ a / 2 < b / 2) ∧ (∀ j : Nat, N[j]? ≠ some (a, b)) ∧ andV N x y = (2 * ((N.length : Int) + 1), N ++ [(a, b)]))) := by
    intro a b hab he
    rcases andF_ways (N := N) hab with ⟨h0, h⟩ | ⟨h0, h1, h⟩ | ⟨h0, h1, h2, h⟩ | ⟨h0, h1, i, i1, i2, i3, h⟩ | ⟨h0, h1, h2, h⟩
    · exact .inl ⟨h0, by rw [he, h]⟩
    · exact .inr (.inl ⟨h0, h1, by rw [he, h]⟩)
    · exact .inr (.inr (.inl ⟨h0, h1, h2, by rw [he, h]⟩))
    · exact .inr (.inr (.inr (.inl ⟨h0, h1, i, i1, i2, i3, by rw [he, h]⟩)))
    · exact .inr (.inr (.inr (.inr ⟨h0, h1, h2, by rw [he, h]⟩)))
  by_cases hxy : x ≤ y
  · exact ⟨x, y, .inl ⟨rfl, rfl⟩, hxy, key x y hxy (by rw [andV, if_pos hxy])⟩
  · exact ⟨y, x, .inr ⟨rfl, rfl⟩, by omega, key y x (by omega) (by rw [andV, if_neg hxy])⟩

theorem andV_len (N : List (Int × Int)) (x y : Int) : N.length ≤ (andV N x y).2.length ∧ (andV N x y).2.length ≤ N.length + 1 := by
  obtain ⟨a, b, _, _, h⟩ := andV_ways N x y
  rcases h with ⟨_, h⟩ | ⟨_, _, h⟩ | ⟨_, _, _, h⟩ | ⟨_, _, _, _, _, _, h⟩ | ⟨_, _, _, h⟩ <;> rw [h] <;> simp
theorem andV_le (N : List (Int × Int)) (x y : Int) : -1 ≤ (andV N x y).1 ∧ (andV N x y).1 ≤ 2 * ((andV N x y).2.length : Int) + 1 := by
  obtain ⟨a, b, _, _, h⟩ := andV_ways N x y
  rcases h with ⟨_, h⟩ | ⟨_, _, h⟩ | ⟨h0, _, _, h⟩ | ⟨_, _, _, _, _, _, h⟩ | ⟨_, _, _, h⟩ <;> rw [h]
  · simp; omega
  · simp; omega
  · have h1 := h0.2; unfold hasL at h1; dsimp only; omega
  · dsimp only; omega
  · simp; omega
theorem andV_has {N : List (Int × Int)} {x y : Int} (hx : hasL N x) (hy : hasL N y) : hasL (andV N x y).2 (andV N x y).1 := by
  obtain ⟨a, b, hab, _, h⟩ := andV_ways N x y
  have hh : hasL N a ∧ hasL N b := by rcases hab with ⟨rfl, rfl⟩ | ⟨rfl, rfl⟩; exact ⟨hx, hy⟩; exact ⟨hy, hx⟩
  rcases h with ⟨h1, _⟩ | ⟨_, _, h⟩ | ⟨_, _, _, h⟩ | ⟨_, _, i, hi, _, _, h⟩ | ⟨_, _, _, h⟩
  · exact absurd hh h1
  · rw [h]; unfold hasL; dsimp only; omega
  · rw [h]; exact hh.2
  · rw [h]; unfold hasL; dsimp only; omega
  · rw [h]; unfold hasL; simp; omega
theorem andV_no {N : List (Int × Int)} {x y : Int} (h : ¬ (hasL N x ∧ hasL N y)) : andV N x y = (-1, N) := by
  obtain ⟨a, b, hab, _, hw⟩ := andV_ways N x y
  have hh : ¬ (hasL N a ∧ hasL N b) := by rcases hab with ⟨rfl, rfl⟩ | ⟨rfl, rfl⟩; exact h; exact fun k => h k.symm
  rcases hw with ⟨_, h⟩ | ⟨h0, _⟩ | ⟨h0, _⟩ | ⟨h0, _⟩ | ⟨h0, _⟩
  · exact h
  all_goals exact absurd h0 hh
theorem Grow.len {N M : List (Int × Int)} (h : Grow N M) : N.length ≤ M.length := by
  induction h with
  | refl => exact Nat.le_refl _
  | input _ ih => simp; omega
  | gate x y _ ih => rename_i M' _; have := andV_len M' x y; omega
theorem Grow.pre {N M : List (Int × Int)} (h : Grow N M) : ∀ {i : Nat} {x}, N[i]? = some x → M[i]? = some x := by
  induction h with
  | refl => exact fun h => h
  | input _ ih => intro i x hx; have := ih hx; rw [List.getElem?_append_left (lt_of_get this)]; exact this
  | gate x y _ ih =>
    rename_i M' _
    intro i z hz
    have := ih hz
    obtain ⟨a, b, _, _, h⟩ := andV_ways M' x y
    rcases h with ⟨_, h⟩ | ⟨_, _, h⟩ | ⟨_, _, _, h⟩ | ⟨_, _, _, _, _, _, h⟩ | ⟨_, _, _, h⟩ <;> rw [h]
    all_goals first | exact this | (show (M' ++ _)[i]? = _; rw [List.getElem?_append_left (lt_of_get this)]; exact this)
theorem hasL_mono {N M : List (Int × Int)} {x : Int} (h : hasL N x) (hl : N.length ≤ M.length) : hasL M x := by unfold hasL at h ⊢; omega
theorem Grow.has {N M : List (Int × Int)} {x : Int} (h : Grow N M) (hx : hasL N x) : hasL M x := hasL_mono hx h.len

structure Tidy (N : List (Int × Int)) : Prop where
  good : GoodNet N
  gate : ∀ i x, N[i]? = some x → 0 ≤ x.1 → 2 ≤ x.1 ∧ x.1 / 2 < x.2 / 2 ∧ ∀ k : Nat, k < i → N[k]? ≠ some x
theorem get_snoc {α : Type} {N : List α} {x y : α} {i : Nat} (h : (N ++ [x])[i]? = some y) : N[i]? = some y ∨ (i = N.length ∧ y = x) := by
  by_cases hi : i < N.length
  · rw [List.getElem?_append_left hi] at h; exact .inl h
  · have := lt_of_get h
    simp only [List.length_append, List.length_cons, List.length_nil] at this
    have : i = N.length := by omega
    subst this
    simp at h; exact .inr ⟨rfl, h.symm⟩
theorem Tidy.nil : Tidy [] := ⟨fun i x h => by simp at h, fun i x h => by simp at h⟩
theorem Tidy.input {N : List (Int × Int)} (h : Tidy N) : Tidy (N ++ [(-1, 0)]) := by
  refine ⟨fun i x hx => ?_, fun i x hx h0 => ?_⟩
  · rcases get_snoc hx with h1 | ⟨_, rfl⟩
    · exact h.good i x h1
    · unfold badNode; simp
  · rcases get_snoc hx with h1 | ⟨_, rfl⟩
    · obtain ⟨k1, k2, k3⟩ := h.gate i x h1 h0
      refine ⟨k1, k2, fun k hk hh => ?_⟩
      have := lt_of_get h1
      rw [List.getElem?_append_left (by omega)] at hh
      exact k3 k hk hh
    · simp at h0
theorem Tidy.and {N : List (Int × Int)} (h : Tidy N) (x y : Int) : Tidy (andV N x y).2 := by
  obtain ⟨a, b, _, _, hw⟩ := andV_ways N x y
  rcases hw with ⟨_, hw⟩ | ⟨_, _, hw⟩ | ⟨_, _, _, hw⟩ | ⟨_, _, _, _, _, _, hw⟩ | ⟨h0, h1, h2, hw⟩
  · rw [hw]; exact h
  · rw [hw]; exact h
  · rw [hw]; exact h
  · rw [hw]; exact h
  · rw [hw]
    show Tidy (N ++ [(a, b)])
    refine ⟨fun i z hz => ?_, fun i z hz hz0 => ?_⟩
    · rcases get_snoc hz with k | ⟨rfl, rfl⟩
      · exact h.good i z k
      · unfold badNode; unfold hasL at h0; dsimp only; omega
    · rcases get_snoc hz with k | ⟨rfl, rfl⟩
      · obtain ⟨k1, k2, k3⟩ := h.gate i z k hz0
        refine ⟨k1, k2, fun j hj hh => ?_⟩
        have := lt_of_get k
        rw [List.getElem?_append_left (by omega)] at hh
        exact k3 j hj hh
      · refine ⟨h1.1, h1.2, fun j hj hh => ?_⟩
        rw [List.getElem?_append_left (by omega)] at hh
        exact h2 j hh
theorem Grow.tidy {N M : List (Int × Int)} (h : Grow N M) (hN : Tidy N) : Tidy M := by
  induction h with
  | refl => exact hN
  | input _ ih => exact ih.input
  | gate x y _ ih => exact ih.and x y

theorem vto_app (N L : List (Int × Int)) (ins : List Bool) : ∀ k, k ≤ N.length → vto (N ++ L) ins k = vto N ins k := by
  intro k hk
  unfold vto
  rw [List.take_append_of_le_length hk]
theorem values_pre {N M : List (Int × Int)} (h : ∀ {i : Nat} {x}, N[i]? = some x → M[i]? = some x) (ins : List Bool) : ∀ k, k ≤ N.length → vto M ins k = vto N ins k := by
  intro k hk
  have hl : N.length ≤ M.length := by
    by_cases h0 : N.length = 0
    · omega
    · obtain ⟨x, hx⟩ := getI N (show N.length - 1 < N.length by omega)
      have := lt_of_get (h hx); omega
  have : M.take N.length = N := by
    apply List.ext_getElem?
    intro i
    by_cases hi : i < N.length
    · obtain ⟨x, hx⟩ := getI N hi
      rw [List.getElem?_take, if_pos hi, hx, h hx]
    · rw [List.getElem?_take, if_neg hi, List.getElem?_eq_none (by omega)]
  have e : M = M.take N.length ++ M.drop N.length := (List.take_append_drop _ _).symm
  rw [this] at e
  rw [e]; exact vto_app _ _ _ k hk
theorem Grow.of {N M : List (Int × Int)} (h : Grow N M) (ins : List Bool) {l : Int} (hl : hasL N l) : ofL (values M ins) l = ofL (values N ins) l := by
  unfold hasL at hl
  rw [← vto_of M ins (k := N.length) (by omega) h.len, values_pre h.pre ins _ (Nat.le_refl _)]; rfl
theorem ofL_xor1 (v : List Bool) {l : Int} (h : 0 ≤ l) : ofL v (Lt.xor1 l) = !ofL v l := by
  unfold Lt.xor1 ofL
  split
  · rw [show (l + 1) / 2 = l / 2 by omega, decide_eq_true (show (l + 1) % 2 = 1 by omega), decide_eq_false (show ¬ l % 2 = 1 by omega)]; simp
  · rw [show (l - 1) / 2 = l / 2 by omega, decide_eq_false (show ¬ (l - 1) % 2 = 1 by omega), decide_eq_true (show l % 2 = 1 by omega)]; simp
theorem ofL_zero {N : List (Int × Int)} (ins : List Bool) : ofL (values N ins) 0 = false := by
  unfold ofL; rw [show ((0 : Int) / 2).toNat = 0 from rfl, values_zero]; rfl
theorem ofL_one {N : List (Int × Int)} (ins : List Bool) : ofL (values N ins) 1 = true := by
  unfold ofL; rw [show ((1 : Int) / 2).toNat = 0 from rfl, values_zero]; rfl
theorem ofL_gate {N : List (Int × Int)} (hg : GoodNet N) (ins : List Bool) {i : Nat} {x : Int × Int} (hx : N[i]? = some x) (h0 : 0 ≤ x.1) : ofL (values N ins) (2 * ((i : Int) + 1)) = (ofL (values N ins) x.1 && ofL (values N ins) x.2) := by
  conv => lhs; unfold ofL
  rw [show ((2 * ((i : Int) + 1)) / 2).toNat = i + 1 by omega, values_gate hg ins hx h0, decide_eq_false (by omega)]; simp
theorem andV_of {N : List (Int × Int)} (hT : Tidy N) (ins : List Bool) {x y : Int} (hx : hasL N x) (hy : hasL N y) : ofL (values (andV N x y).2 ins) (andV N x y).1 = (ofL (values N ins) x && ofL (values N ins) y) := by
  obtain ⟨a, b, hab, hle, hw⟩ := andV_ways N x y
  have hG : Grow N (andV N x y).2 := .gate x y (.refl N)
  have hT2 := hT.and x y
  have hh : hasL N a ∧ hasL N b := by rcases hab with ⟨rfl, rfl⟩ | ⟨rfl, rfl⟩; exact ⟨hx, hy⟩; exact ⟨hy, hx⟩
  have he : (ofL (values N ins) x && ofL (values N ins) y) = (ofL (values N ins) a && ofL (values N ins) b) := by
    rcases hab with ⟨rfl, rfl⟩ | ⟨rfl, rfl⟩
    · rfl
    · exact Bool.and_comm _ _
  rw [he]
  rcases hw with ⟨h1, _⟩ | ⟨_, h1, hw⟩ | ⟨_, _, h1, hw⟩ | ⟨_, h1, i, i1, i2, i3, hw⟩ | ⟨h0, h1, h2, hw⟩
  · exact absurd hh h1
  · rw [hw]
    show ofL (values N ins) 0 = _
    rw [ofL_zero]
    rcases h1 with rfl | rfl
    · rw [ofL_zero]; rfl
    · rw [ofL_xor1 _ hh.2.1]; simp
  · rw [hw]
    show ofL (values N ins) b = _
    rcases h1 with rfl | rfl
    · rw [ofL_one]; rfl
    · simp
  · rw [hw]
    exact ofL_gate hT.good ins i2 (by show 0 ≤ a; omega)
  · rw [hw] at hG hT2 ⊢
    have hx2 : (N ++ [(a, b)])[N.length]? = some (a, b) := by simp
    show ofL (values (N ++ [(a, b)]) ins) _ = _
    rw [ofL_gate hT2.good ins hx2 (by show 0 ≤ a; omega)]
    show (ofL (values (N ++ [(a, b)]) ins) a && ofL (values (N ++ [(a, b)]) ins) b) = _
    rw [Grow.of hG ins hh.1, Grow.of hG ins hh.2]
end Go.Proofs.Yteidpnpbfagaeaa
namespace Go.Proofs.Yteidpnpbfagaeaa
open Go Go.Lt Go.RowKit
set_option linter.unusedVariables false
set_option linter.unusedSimpArgs false
set_option maxRecDepth 20000

theorem slices_CloneN (a : Option Addr) (cap : Nat) (l : List (Int × Int)) (w : World) (R : Row 2 encN w a l) (hna : a = none → cap = 0) (hl : l.length ≤ 1048576) :
    Lt.Spec Try.prog 116 [.slice a l.length cap] w (IsFresh 2 encN 105 w l) := by
  by_cases ha : a = none
  · subst ha
    have hl0 : l = [] := by
      cases l with
      | nil => rfl
      | cons x r => obtain ⟨b, off, h1, _⟩ := R.elem 0 x rfl; cases h1
    subst hl0
    refine Spec.of _ Try.func116 rfl Try.ntmps116 (by kernel_rfl) rfl ?_
    repeat' (first
      | (apply WL.eqSl tOk; (iterate 6 exact rfl))
      | (apply W.condKT; exact rfl; (focus (exact dec_true rfl; done)))
      | (show WL _ _ _ _ _ _ _; first | apply WL.nil | (refine WL.au (k := ?_)))
      | (show Z _ _ _ _ _; first | apply Z.then_normal | apply Z.then_ret)
      | (show W _ _ _ _ _ _; first | apply W.seq | apply W.region | apply W.ret)
      | fail)
    exact Z.body1 Try.results116 rfl fun m => ⟨(Ext.refl _).at m, none, 0, rfl, Own.nil⟩
  · refine Spec.of _ Try.func116 rfl Try.ntmps116 (by kernel_rfl) rfl ?_
    repeat' (first
      | (apply WL.eqSl tOk; (iterate 6 exact rfl))
      | (apply W.condKF; exact rfl; (focus (exact dec_false ha; done)))
      | (apply WL.lit (len := 0) tOk; (iterate 6 exact rfl); (first | exact rfl | kernel_rfl | (simp [Instr.fill, catCells]; done)); exact rfl; intro gb w' hb hge hc hx; have hO0 := Own.of_block0 (enc := encN) (s := 2) hb hge)
      | (apply WL.appendS tOk encN_ok; (iterate 10 exact rfl); assumption; (exact extA); (first | exact rfl | (focus (simp only [List.length_set]; done)) | (focus (simp; done)) | (focus (simp [*]; done)) | omega | (focus (simp only [List.length_set]; omega))); assumption; (exact extA); (first | exact rfl | (focus (simp only [List.length_set]; done)) | (focus (simp; done)) | (focus (simp [*]; done)) | omega | (focus (simp only [List.length_set]; omega))); (first | assumption | (intro h; cases h) | exact Own.noneCap (by assumption)); exact rfl; (exact extA); (first | omega | (simp; omega) | (simp at *; omega)); intro a' cap' w' hO hX' hU hF)
      | (show WL _ _ _ _ _ _ _; first | apply WL.nil | (refine WL.au (k := ?_)))
      | (show Z _ _ _ _ _; apply Z.then_normal)
      | (show W _ _ _ _ _ _; first | apply W.seq | apply W.region | apply W.skip | apply W.ret)
      | fail)
    exact Z.body1 Try.results116 rfl fun m => ⟨Ext.at (by (exact extA)) m, a', cap', by rw [List.nil_append], by rw [List.nil_append] at hO; exact hO⟩
end Go.Proofs.Yteidpnpbfagaeaa
namespace Go.Proofs.Yteidpnpbfagaeaa
open Go Go.Lt Go.RowKit
set_option linter.unusedVariables false
set_option linter.unusedSimpArgs false
set_option maxRecDepth 20000

theorem aig_notA (l : Int) (w : World) (h : l ≤ 9223372036854775807) : Still Try.prog 114 [.int .i64 l] w (.int .i64 (notL l)) := by
  refine Spec.of _ Try.func114 rfl Try.ntmps114 (by kernel_rfl) rfl ?_
  repeat' (first
    | (apply WL.xorA; (iterate 4 exact rfl); omega)
    | (show WL _ _ _ _ _ _ _; first | apply WL.nil | (refine WL.au (k := ?_)))
    | (show Z _ _ _ _ _; first | apply Z.then_normal | apply Z.then_ret)
    | (show W _ _ _ _ _ _; first | apply W.seq | apply W.region | apply W.skip | apply W.ret | (apply W.condD; exact rfl; all_goals intro _))
    | fail)
  all_goals (refine Z.body1 Try.results114 rfl fun m => ⟨?_, m, rfl⟩; congr 1; unfold notL; first | rw [if_pos (by assumption)] | rw [if_neg (by assumption)])
end Go.Proofs.Yteidpnpbfagaeaa
namespace Go.Proofs.Yteidpnpbfagaeaa
open Go Go.Lt Go.RowKit
set_option linter.unusedVariables false
set_option linter.unusedSimpArgs false
set_option maxRecDepth 20000

/-- What a call on a store leaves: a literal, and these nodes. -/
abbrev AtSt (w0 : World) (gs r : Nat) (rest : List Piece) (q : Int × List (Int × Int)) (v : Value) (w' : World) : Prop :=
  Ext w0 w' ∧ ∃ a' cap', v = .int .i64 q.1 ∧ Sep w0.heap.size w' (stN w0.heap.size gs a' cap' r q.2 ++ rest)
/-- What holds wherever the store goes. -/
abbrev Keeps (w0 : World) (gs r : Nat) (rest : List Piece) (p : World → Prop) : Prop :=
  ∀ w' a' cap' N', Ext w0 w' → Sep w0.heap.size w' (stN w0.heap.size gs a' cap' r N' ++ rest) → p w'

theorem aig_And (gs r cap : Nat) (a : Option Addr) (N : List (Int × Int)) (x y : Int) (rest : List Piece) (w w0 : World) (hX : Ext w0 w) (hS : Sep w0.heap.size w (stN w0.heap.size gs a cap r N ++ rest)) (hN : N.length < 1048576) :
    Lt.Spec Try.prog 113 [.pointer (some ⟨gs, 0, none⟩), .int .i64 x, .int .i64 y] w (AtSt w0 gs r rest (andV N x y)) := by
  by_cases hxy : x ≤ y
  · refine (aig_AndLe gs r cap a N (gmN N) x y rest w w0 hX hS hN hxy).mono ?_
    rintro v w' ⟨h1, a', cap', h2, h3⟩
    rw [andF_M hxy] at h3
    have e : andV N x y = ((andF N (gmN N) x y).v, (andF N (gmN N) x y).N) := if_pos hxy
    rw [e]
    exact ⟨h1, a', cap', h2, h3⟩
  · refine (aig_AndGt gs r cap a N (gmN N) x y rest w w0 hX hS hN (by omega)).mono ?_
    rintro v w' ⟨h1, a', cap', h2, h3⟩
    rw [andF_M (by omega)] at h3
    have e : andV N x y = ((andF N (gmN N) y x).v, (andF N (gmN N) y x).N) := if_neg hxy
    rw [e]
    exact ⟨h1, a', cap', h2, h3⟩
theorem aig_InputV (gs r cap : Nat) (a : Option Addr) (N : List (Int × Int)) (rest : List Piece) (w w0 : World) (hX : Ext w0 w) (hS : Sep w0.heap.size w (stN w0.heap.size gs a cap r N ++ rest)) (hN : N.length < 1048576) :
    Lt.Spec Try.prog 90 [.pointer (some ⟨gs, 0, none⟩)] w (AtSt w0 gs r rest (2 * ((N.length : Int) + 1), N ++ [(-1, 0)])) := by
  refine (aig_Input gs r cap a N (gmN N) rest w w0 hX hS hN).mono ?_
  rintro v w' ⟨h1, a', cap', h2, h3⟩
  have e : gmN N = gmN (N ++ [(-1, 0)]) := (gm_snoc_in N (x := (-1, 0)) (by decide)).symm
  rw [e] at h3
  exact ⟨h1, a', cap', h2, h3⟩
theorem aig_NewV (w w0 : World) (rest : List Piece) (hX : Ext w0 w) (hS : Sep w0.heap.size w rest) :
    Lt.Spec Try.prog 54 [] w (fun v w' => Ext w w' ∧ ∃ gs r, v = .pointer (some ⟨gs, 0, none⟩) ∧ Sep w0.heap.size w' (stN w0.heap.size gs none 0 r [] ++ rest)) := by
  refine Spec.of _ Try.func54 rfl Try.ntmps54 (by kernel_rfl) rfl ?_
  repeat' (first
    | ((apply WL.makeMap (kv := kvN) (vv := vvI); exact rfl; exact rfl; intro r w1 hM hge1 hx1))
    | (apply WL.build tOk; (iterate 7 exact rfl); kernel_rfl)
    | (apply WL.box; (iterate 3 exact rfl); intro gb w' hb hge hc hx; have hcc := hc; (first | (obtain ⟨h1, h2, h3, _⟩ := hc) | (obtain ⟨h1, h2, _⟩ := hc)))
    | (show WL _ _ _ _ _ _ _; first | apply WL.nil | (refine WL.au (k := ?_)))
    | (show Z _ _ _ _ _; apply Z.then_normal)
    | (show W _ _ _ _ _ _; first | apply W.seq | apply W.region | apply W.ret)
    | fail)
  have hB : w0.heap.size ≤ w.heap.size := hX.size
  have hS1 : Lt.Sep w0.heap.size w1 (pmap kvN vvI r [] :: rest) := Sep.newMap hS hx1 hM hge1 hB
  have hS2 : Lt.Sep w0.heap.size w1 (prow 2 encN 105 w0.heap.size none 0 [] :: pmap kvN vvI r [] :: rest) := Sep.newRow hS1 (Ext.refl _) Own.nil (fun k hk => by cases hk) (Nat.le_trans hB hx1.size)
  have hS : Lt.Sep w0.heap.size w' (stN w0.heap.size gb none 0 r [] ++ rest) := Sep.newCell hS2 hx hb hge (Nat.le_trans hB hx1.size)
  exact Z.body1 Try.results54 rfl fun m => ⟨Ext.at (by (exact extA)) m, gb, r, rfl, hS.ext ((Ext.refl _).at m)⟩

noncomputable def orV (N : List (Int × Int)) (x y : Int) : Int × List (Int × Int) := (notL (andV N (notL x) (notL y)).1, (andV N (notL x) (notL y)).2)
noncomputable def aTo (N : List (Int × Int)) (L : List Int) (k : Nat) : Int × List (Int × Int) := (L.take k).foldl (fun s z => andV s.2 s.1 z) (1, N)
noncomputable def allV (N : List (Int × Int)) (L : List Int) : Int × List (Int × Int) := bif dec (∀ z ∈ L, hasL N z) then aTo N L L.length else (-1, N)
theorem aTo_succ {N : List (Int × Int)} {L : List Int} {k : Nat} {z : Int} (h : L[k]? = some z) : aTo N L (k + 1) = andV (aTo N L k).2 (aTo N L k).1 z := by
  unfold aTo; rw [take_succ' h, List.foldl_append]; rfl

theorem notL_has {N : List (Int × Int)} {x : Int} (h : hasL N x) : hasL N (notL x) := by
  unfold hasL at h ⊢
  unfold notL Lt.xor1
  split
  · omega
  · split <;> omega
theorem notL_xor1 {x : Int} (h : 0 ≤ x) : notL x = Lt.xor1 x := by unfold notL; rw [if_neg (by omega)]
theorem orV_len (N : List (Int × Int)) (x y : Int) : N.length ≤ (orV N x y).2.length ∧ (orV N x y).2.length ≤ N.length + 1 := andV_len _ _ _
theorem orV_has {N : List (Int × Int)} {x y : Int} (hx : hasL N x) (hy : hasL N y) : hasL (orV N x y).2 (orV N x y).1 := notL_has (andV_has (notL_has hx) (notL_has hy))
theorem orV_grow (N : List (Int × Int)) (x y : Int) : Grow N (orV N x y).2 := .gate _ _ (.refl N)
theorem aTo_inv {N : List (Int × Int)} {L : List Int} (h : ∀ z ∈ L, hasL N z) : ∀ k, k ≤ L.length → hasL (aTo N L k).2 (aTo N L k).1 ∧ N.length ≤ (aTo N L k).2.length ∧ (aTo N L k).2.length ≤ N.length + k ∧ Grow N (aTo N L k).2
  | 0, _ => ⟨by unfold aTo hasL; simp; omega, Nat.le_refl _, Nat.le_refl _, .refl N⟩
  | k + 1, hk => by
    obtain ⟨z, hz⟩ := getI L (show k < L.length by omega)
    obtain ⟨i1, i2, i3, i4⟩ := aTo_inv h k (by omega)
    rw [aTo_succ hz]
    have hl := andV_len (aTo N L k).2 (aTo N L k).1 z
    exact ⟨andV_has i1 (hasL_mono (h z (List.mem_of_getElem? hz)) i2), by omega, by omega, .gate _ _ i4⟩

theorem aig_OrV (gs r cap : Nat) (a : Option Addr) (N : List (Int × Int)) (x y : Int) (rest : List Piece) (w w0 : World) (hX : Ext w0 w) (hS : Sep w0.heap.size w (stN w0.heap.size gs a cap r N ++ rest)) (hN : N.length < 1048576) (hbx : x ≤ 9223372036854775807) (hby : y ≤ 9223372036854775807) :
    Lt.Spec Try.prog 59 [.pointer (some ⟨gs, 0, none⟩), .int .i64 x, .int .i64 y] w (AtSt w0 gs r rest (orV N x y)) := by
  have hl := andV_len N (notL x) (notL y)
  have hle := andV_le N (notL x) (notL y)
  have hb9 : (andV N (notL x) (notL y)).1 ≤ 9223372036854775807 := by omega
  refine Spec.of _ Try.func59 rfl Try.ntmps59 (by kernel_rfl) rfl ?_
  repeat' (first
    | ((show WL _ _ _ (⟨_, .call ⟨.value (.func 114), _, _⟩, _, _, _, _⟩ :: _) _ _ _); apply WL.callS; (iterate 4 exact rfl); exact aig_notA _ _ (by assumption))
    | (((show WL _ _ _ (⟨_, .call ⟨.value (.func 113), _, _⟩, _, _, _, _⟩ :: _) _ _ _); apply WL.call; (iterate 4 exact rfl); exact aig_And gs r cap a N _ _ rest _ w0 hX hS hN; rintro v' w' ⟨hX2, a', cap', rfl, hS2⟩))
    | (show WL _ _ _ _ _ _ _; first | apply WL.nil | (refine WL.au (k := ?_)))
    | (show Z _ _ _ _ _; apply Z.then_normal)
    | (show W _ _ _ _ _ _; first | apply W.seq | apply W.region | apply W.ret)
    | fail)
  exact Z.body1 Try.results59 rfl fun m => ⟨hX2.at m, a', cap', rfl, hS2.ext ((Ext.refl _).at m)⟩

set_option maxHeartbeats 4000000 in
theorem aig_AllV (gs r cap cl : Nat) (a al : Option Addr) (N : List (Int × Int)) (L : List Int) (rest : List Piece) (w w0 : World) (hX : Ext w0 w) (hS : Sep w0.heap.size w (stN w0.heap.size gs a cap r N ++ rest)) (hN : N.length + L.length < 1048576) (hL : Keeps w0 gs r rest (fun w' => Row 1 encI w' al L)) :
    Lt.Spec Try.prog 58 [.pointer (some ⟨gs, 0, none⟩), .slice al L.length cl] w (AtSt w0 gs r rest (allV N L)) := by
  have hC0 := hS.cell (i := 0) rfl
  have RL := hL w a cap N hX hS
  have hll := RL.len
  by_cases hh : ∀ z ∈ L, hasL N z
  · have e : allV N L = aTo N L L.length := by unfold allV; rw [dec_true hh]; rfl
    rw [e]
    refine Spec.of _ Try.func58 rfl Try.ntmps58 (by kernel_rfl) rfl ?_
    repeat' (first
      | ((show WL _ _ _ (⟨_, .call ⟨.value (.func 111), _, _⟩, _, _, _, _⟩ :: _) _ _ _); apply WL.callP; (iterate 4 exact rfl); exact aig_has _ _ _ _ _ N L _ _ hC0 RL (by omega); intro w' hx)
      | (apply W.condKF; exact rfl; (focus ((rw [dec_true hh]; rfl); done)))
      | (show WL _ _ _ _ _ _ _; first | apply WL.nil | (refine WL.au (k := ?_)))
      | (show Z _ _ _ _ _; apply Z.then_normal)
      | (show W _ _ _ _ _ _; first | apply W.seq | apply W.region | apply W.block | apply W.skip)
      | fail)
    refine W.loopO L.length (fun k a' cp w' => k ≤ L.length ∧ Ext w0 w' ∧ Sep w0.heap.size w' (stN w0.heap.size gs a' cp r (aTo N L k).2 ++ rest)) (fun k a' cp => [(0, .pointer (some ⟨gs, 0, none⟩)), (5, .int .i64 (aTo N L k).1), (12, .slice al L.length cl), (13, .int .i64 L.length), (14, .int .i64 k)]) a cap ⟨by omega, hX.trans hx, hS.ext hx⟩ (fun k a' cp w' h => h.1) ⟨rfl, rfl, rfl, rfl, rfl, trivial⟩ ?_
    rintro k a2 cp2 w2 ⟨hk, hX2, hS2⟩
    have R2 := hL _ _ _ _ hX2 hS2
    obtain ⟨i1, i2, i3, _⟩ := aTo_inv hh k hk
    by_cases hlt : k < L.length
    · obtain ⟨z, hz⟩ := getI L hlt
      have hs := aTo_succ (N := N) hz
      have i4 := (aTo_inv hh (k + 1) (by omega)).1
      have q0 : ¬ (andV (aTo N L k).2 (aTo N L k).1 z).1 < 0 := by rw [← hs]; have := i4.1; omega
      repeat' (first
        | (apply W.condKT; exact rfl; (focus (first | exact dec_true (by omega) | exact dec_false q0; done)))
        | (apply W.condKF; exact rfl; (focus (first | exact dec_true (by omega) | exact dec_false q0; done)))
        | (((show WL _ _ _ (⟨_, .call ⟨.value (.func 113), _, _⟩, _, _, _, _⟩ :: _) _ _ _); apply WL.call; (iterate 4 exact rfl); exact aig_And gs r _ _ (aTo N L k).2 _ _ rest _ w0 hX2 hS2 (by omega); rintro v' w' ⟨hX2, a', cap', rfl, hS2⟩))
        | (show WL _ _ _ _ _ _ _; first | apply WL.nil | (refine WL.au (k := ?_)) | (apply WL.index tOk; (iterate 8 exact rfl); assumption; (exact extA); exact rfl; omega; assumption; intro b off h; have hcc := h; first | (obtain ⟨h1, h2, h3, h4, h5, h6, _⟩ := h) | (obtain ⟨h1, h2, h3, _⟩ := h) | (obtain ⟨h1, h2, _⟩ := h) | (obtain ⟨h1, _⟩ := h)))
        | (show Z _ _ _ _ _; first | apply Z.then_normal | apply Z.block_normal)
        | (show W _ _ _ _ _ _; first | apply W.seq | apply W.region | apply W.block | apply W.skip)
        | fail)
      exact Z.againO a' cap' ⟨by omega, hX2, by rw [hs]; exact hS2⟩ (by repeat' first | exact trivial | (refine And.intro ?_ ?_) | exact rfl | (rw [hs]; exact rfl))
    · obtain rfl : k = L.length := by omega
      repeat' (first
        | (apply W.condKF; exact rfl; (focus (exact dec_false (by omega); done)))
        | (show WL _ _ _ _ _ _ _; first | apply WL.nil | (refine WL.au (k := ?_)))
        | (show Z _ _ _ _ _; first | apply Z.then_normal | apply Z.then_exit | apply Z.block_exit)
        | (show W _ _ _ _ _ _; first | apply W.seq | apply W.region | apply W.ret | apply W.exit)
        | fail)
      exact Z.body1 Try.results58 rfl fun m => ⟨hX2.at m, a2, cp2, rfl, hS2.ext ((Ext.refl _).at m)⟩
  · have e : allV N L = (-1, N) := by unfold allV; rw [dec_false hh]; rfl
    rw [e]
    refine Spec.of _ Try.func58 rfl Try.ntmps58 (by kernel_rfl) rfl ?_
    repeat' (first
      | ((show WL _ _ _ (⟨_, .call ⟨.value (.func 111), _, _⟩, _, _, _, _⟩ :: _) _ _ _); apply WL.callP; (iterate 4 exact rfl); exact aig_has _ _ _ _ _ N L _ _ hC0 RL (by omega); intro w' hx)
      | (apply W.condKT; exact rfl; (focus ((rw [dec_false hh]; rfl); done)))
      | (show WL _ _ _ _ _ _ _; first | apply WL.nil | (refine WL.au (k := ?_)))
      | (show Z _ _ _ _ _; first | apply Z.then_normal | apply Z.then_ret)
      | (show W _ _ _ _ _ _; first | apply W.seq | apply W.region | apply W.ret)
      | fail)
    exact Z.body1 Try.results58 rfl fun m => ⟨Ext.at (hX.trans hx) m, a, cap, rfl, (hS.ext hx).ext ((Ext.refl _).at m)⟩
end Go.Proofs.Yteidpnpbfagaeaa
namespace Go.Proofs.Yteidpnpbfagaeaa
open Go Go.Lt Go.RowKit
set_option linter.unusedVariables false
set_option linter.unusedSimpArgs false
set_option maxRecDepth 20000

noncomputable def litI (l : List Int) (x : Int) : Int := xorI (l.getD (x / 2).toNat 0) (x % 2)
noncomputable def cstep (ins : List Int) (s : List Int × Nat × List (Int × Int)) (x : Int × Int) : List Int × Nat × List (Int × Int) :=
  if 0 ≤ x.1 then (s.1 ++ [(andV s.2.2 (litI s.1 x.1) (litI s.1 x.2)).1], s.2.1, (andV s.2.2 (litI s.1 x.1) (litI s.1 x.2)).2)
  else if s.2.1 < ins.length then (s.1 ++ [ins.getD s.2.1 0], s.2.1 + 1, s.2.2)
  else (s.1 ++ [2 * ((s.2.2.length : Int) + 1)], s.2.1 + 1, s.2.2 ++ [(-1, 0)])
noncomputable def cto (N n : List (Int × Int)) (ins : List Int) (k : Nat) : List Int × Nat × List (Int × Int) := (n.take k).foldl (cstep ins) ([0], 0, N)
noncomputable def copyV (N n : List (Int × Int)) (ins : List Int) : List Int × List (Int × Int) := bif dec (∀ z ∈ ins, hasL N z) then ((cto N n ins n.length).1, (cto N n ins n.length).2.2) else ([], N)
theorem cto_succ {N n : List (Int × Int)} {ins : List Int} {k : Nat} {x : Int × Int} (h : n[k]? = some x) : cto N n ins (k + 1) = cstep ins (cto N n ins k) x := by
  unfold cto; rw [take_succ' h, List.foldl_append]; rfl
theorem hasL_xor1 {N : List (Int × Int)} {x : Int} (h : hasL N x) : hasL N (Lt.xor1 x) := by
  unfold hasL at h ⊢
  unfold Lt.xor1
  split <;> omega
theorem hasL_litI {N : List (Int × Int)} {l : List Int} {x : Int} (h : ∀ z ∈ l, hasL N z) (hx : (x / 2).toNat < l.length) : hasL N (litI l x) := by
  obtain ⟨z, hz⟩ := getI l hx
  have := h z (List.mem_of_getElem? hz)
  unfold litI xorI
  rw [getD_of hz]
  split
  · exact hasL_xor1 this
  · exact this
theorem cto_inv {N n : List (Int × Int)} {ins : List Int} (hg : GoodNet n) (h : ∀ z ∈ ins, hasL N z) : ∀ k, k ≤ n.length →
    (cto N n ins k).1.length = k + 1 ∧ (∀ z ∈ (cto N n ins k).1, hasL (cto N n ins k).2.2 z) ∧ N.length ≤ (cto N n ins k).2.2.length ∧ (cto N n ins k).2.2.length ≤ N.length + k ∧ Grow N (cto N n ins k).2.2 ∧ (cto N n ins k).2.1 ≤ k
  | 0, _ => by
    refine ⟨rfl, fun z hz => ?_, Nat.le_refl _, Nat.le_refl _, .refl N, Nat.le_refl _⟩
    obtain rfl : z = 0 := by simpa [cto] using hz
    unfold hasL; omega
  | k + 1, hk => by
    obtain ⟨x, hx⟩ := getI n (show k < n.length by omega)
    obtain ⟨i1, i2, i3, i4, i5, i6⟩ := cto_inv hg h k (by omega)
    rw [cto_succ hx]
    generalize cto N n ins k = s at i1 i2 i3 i4 i5 i6
    unfold cstep
    split
    · rename_i h0
      have hgt := hg.gate hx h0
      have hl := andV_len s.2.2 (litI s.1 x.1) (litI s.1 x.2)
      have hv := andV_has (hasL_litI i2 (x := x.1) (by omega)) (hasL_litI i2 (x := x.2) (by omega))
      refine ⟨by simp [i1], fun z hz => ?_, by dsimp only; omega, by dsimp only; omega, .gate _ _ i5, by dsimp only; omega⟩
      rcases List.mem_append.1 hz with h1 | h1
      · exact hasL_mono (i2 z h1) hl.1
      · obtain rfl := List.mem_singleton.1 h1; exact hv
    · split
      · rename_i h0 h1
        refine ⟨by simp [i1], fun z hz => ?_, i3, by dsimp only; omega, i5, by dsimp only; omega⟩
        rcases List.mem_append.1 hz with h2 | h2
        · exact i2 z h2
        · obtain rfl := List.mem_singleton.1 h2
          obtain ⟨y, hy⟩ := getI ins h1
          rw [getD_of hy]
          exact hasL_mono (h y (List.mem_of_getElem? hy)) i3
      · refine ⟨by simp [i1], fun z hz => ?_, by simp; omega, by simp; omega, .input i5, by dsimp only; omega⟩
        rcases List.mem_append.1 hz with h2 | h2
        · exact hasL_mono (i2 z h2) (by simp)
        · obtain rfl := List.mem_singleton.1 h2
          unfold hasL; simp; omega

theorem Sep.back32 {B : Nat} {w : World} {p q a b c : Piece} {rs : List Piece} (hS : Sep B w (p :: q :: a :: b :: c :: rs)) : Sep B w (a :: b :: c :: p :: q :: rs) := by
  refine Sep.sub' (fun i => if i < 3 then i + 2 else if i < 5 then i - 3 else i) hS (fun i x h => ?_) (fun i j hi hj hne => ?_)
  · match i, h with
    | 0, h => exact h
    | 1, h => exact h
    | 2, h => exact h
    | 3, h => exact h
    | 4, h => exact h
    | i + 5, h =>
      simp only [show ¬ i + 5 < 3 by omega, show ¬ i + 5 < 5 by omega, if_false]; exact h
  · split <;> split <;> (try split) <;> (try split) <;> omega
theorem Sep.back31 {B : Nat} {w : World} {p a b c : Piece} {rs : List Piece} (hS : Sep B w (p :: a :: b :: c :: rs)) : Sep B w (a :: b :: c :: p :: rs) := by
  refine Sep.sub' (fun i => if i < 3 then i + 1 else if i < 4 then i - 3 else i) hS (fun i x h => ?_) (fun i j hi hj hne => ?_)
  · match i, h with
    | 0, h => exact h
    | 1, h => exact h
    | 2, h => exact h
    | 3, h => exact h
    | i + 4, h =>
      simp only [show ¬ i + 4 < 3 by omega, show ¬ i + 4 < 4 by omega, if_false]; exact h
  · split <;> split <;> (try split) <;> (try split) <;> omega
theorem Sep.drop34 {B : Nat} {w : World} {p q a b c : Piece} {rs : List Piece} (hS : Sep B w (a :: b :: c :: p :: q :: rs)) : Sep B w (a :: b :: c :: rs) := by
  refine Sep.sub' (fun i => if i < 3 then i else i + 2) hS (fun i x h => ?_) (fun i j hi hj hne => ?_)
  · match i, h with
    | 0, h => exact h
    | 1, h => exact h
    | 2, h => exact h
    | i + 3, h => simp only [show ¬ i + 3 < 3 by omega, if_false]; exact h
  · split <;> split <;> omega
theorem Sep.drop3 {B : Nat} {w : World} {p a b c : Piece} {rs : List Piece} (hS : Sep B w (a :: b :: c :: p :: rs)) : Sep B w (a :: b :: c :: rs) := by
  refine Sep.sub' (fun i => if i < 3 then i else i + 1) hS (fun i x h => ?_) (fun i j hi hj hne => ?_)
  · match i, h with
    | 0, h => exact h
    | 1, h => exact h
    | 2, h => exact h
    | i + 3, h => simp only [show ¬ i + 3 < 3 by omega, if_false]; exact h
  · split <;> split <;> omega

theorem aig_Copy1 (g7 lc : Nat) (la : Option Addr) (L : List Int) (x z : Int) (w : World) (hc : w.heap[g7]? = some (.cells #[.slice la L.length lc] 22 (0, 0))) (RL : Row 1 encI w la L) (hz : L[(x / 2).toNat]? = some z) (hx : 0 ≤ x ∧ x ≤ 9223372036854775807) (hz0 : 0 ≤ z ∧ z ≤ 9223372036854775806) :
    Still Try.prog 112 ([.int .i64 x] ++ [.pointer (some ⟨g7, 0, none⟩)]) w (.int .i64 (litI L x)) := by
  obtain ⟨h1, _⟩ := cells_heap hc
  have hl := RL.len
  rw [litI, getD_of hz]
  refine Spec.of _ Try.func112 rfl Try.ntmps112 (by kernel_rfl) rfl ?_
  repeat' (first
    | (apply WL.and1; (iterate 4 exact rfl); omega)
    | (apply WL.xorI; (iterate 4 exact rfl); omega; omega)
    | (show WL _ _ _ _ _ _ _; first | apply WL.nil | (refine WL.au (k := ?_)) | (apply WL.index tOk; (iterate 8 exact rfl); assumption; (exact extA); exact rfl; omega; assumption; intro b off h; have hcc := h; first | (obtain ⟨h1, h2, h3, h4, h5, h6, _⟩ := h) | (obtain ⟨h1, h2, h3, _⟩ := h) | (obtain ⟨h1, h2, _⟩ := h) | (obtain ⟨h1, _⟩ := h)))
    | (show Z _ _ _ _ _; apply Z.then_normal)
    | (show W _ _ _ _ _ _; first | apply W.seq | apply W.region | apply W.ret)
    | fail)
  exact Z.body1 Try.results112 rfl fun m => ⟨rfl, m, rfl⟩

abbrev AtCopy (w0 : World) (gs r : Nat) (rest : List Piece) (q : List Int × List (Int × Int)) (v : Value) (w' : World) : Prop :=
  Ext w0 w' ∧ ∃ a' cap' la lc, v = .slice la q.1.length lc ∧ Sep w0.heap.size w' (stN w0.heap.size gs a' cap' r q.2 ++ (prow 1 encI 3 w0.heap.size la lc q.1 :: rest))

set_option maxHeartbeats 8000000 in
theorem aig_CopyV (gs r cap cn cl : Nat) (a an al : Option Addr) (N n : List (Int × Int)) (ins : List Int) (rest : List Piece) (w w0 : World) (hX : Ext w0 w) (hS : Sep w0.heap.size w (stN w0.heap.size gs a cap r N ++ rest)) (hN : N.length + n.length < 1048576) (hg : GoodNet n) (hcl : ins.length ≤ cl)
    (hn : Keeps w0 gs r rest (fun w' => Row 2 encN w' an n)) (hi : Keeps w0 gs r rest (fun w' => Row 1 encI w' al ins)) :
    Lt.Spec Try.prog 55 [.pointer (some ⟨gs, 0, none⟩), .slice an n.length cn, .slice al ins.length cl] w (AtCopy w0 gs r rest (copyV N n ins)) := by
  have hC0 := hS.cell (i := 0) rfl
  have RI := hi w a cap N hX hS
  have hli := RI.len
  by_cases hh : ∀ z ∈ ins, hasL N z
  · have e : copyV N n ins = ((cto N n ins n.length).1, (cto N n ins n.length).2.2) := by unfold copyV; rw [dec_true hh]; rfl
    rw [e]
    refine Spec.of _ Try.func55 rfl Try.ntmps55 (by kernel_rfl) rfl ?_
    repeat' (first
      | ((show WL _ _ _ (⟨_, .call ⟨.value (.func 111), _, _⟩, _, _, _, _⟩ :: _) _ _ _); apply WL.callP; (iterate 4 exact rfl); exact aig_has _ _ _ _ _ N ins _ _ hC0 RI (by omega); intro w' hx)
      | (apply W.condKF; exact rfl; (focus ((rw [dec_true hh]; rfl); done)))
      | (show WL _ _ _ _ _ _ _; first | apply WL.nil | (refine WL.au (k := ?_)))
      | (show Z _ _ _ _ _; apply Z.then_normal)
      | (show W _ _ _ _ _ _; first | apply W.seq | apply W.region | apply W.skip)
      | fail)
    have hx1 := hx
    obtain ⟨w1, rfl⟩ : ∃ x, x = w' := ⟨_, rfl⟩
    replace hS := hS.ext hx1
    have hX1 : Ext w0 w1 := hX.trans hx1
    repeat' (first
      | (apply WL.makeC (w0 := w0) (z := (0:Int)) tOk; (iterate 9 exact rfl); exact encI_ok; exact rfl; exact rfl; (exact extA); (first | omega | (simp; omega) | (simp at *; omega)); intro gb w' hO hge hx)
      | fail)
    obtain ⟨gl, rfl⟩ : ∃ x, x = gb := ⟨_, rfl⟩
    replace hS := Sep.newRow hS hx (hO : Own 1 encI 3 w0.heap.size w' _ _ [0]) (fun k hk => by cases hk; exact hge) hX1.size
    repeat' (first
      | (apply WL.alloc tOk; (iterate 3 exact rfl); intro gb w' hb hge hx; replace hS := Sep.newCell (Sep.ext hS (by (exact extA))) hx hb hge (by (first | exact Nat.le_refl _ | exact Below.size (by (exact extA)))); (try simp only [List.set_cons_zero, List.set_cons_succ] at hS); (try have hR0 := hS.row (i := 0) rfl); (try have hR1 := hS.row (i := 1) rfl); (try have hR2 := hS.row (i := 2) rfl); (try have hR3 := hS.row (i := 3) rfl); (try have hR4 := hS.row (i := 4) rfl); (try have hC0 := hS.cell (i := 0) rfl); (try have hD0 := (cells_heap hC0).1); (try have hE0 := (cells_heap hC0).2.1); (try have hF0 := (cells_heap hC0).2.2.1); (try have hG0 := (cells_heap hC0).2.2.2.1); (try have hC1 := hS.cell (i := 1) rfl); (try have hD1 := (cells_heap hC1).1); (try have hE1 := (cells_heap hC1).2.1); (try have hF1 := (cells_heap hC1).2.2.1); (try have hG1 := (cells_heap hC1).2.2.2.1); (try have hC2 := hS.cell (i := 2) rfl); (try have hD2 := (cells_heap hC2).1); (try have hE2 := (cells_heap hC2).2.1); (try have hF2 := (cells_heap hC2).2.2.1); (try have hG2 := (cells_heap hC2).2.2.2.1); (try have hC3 := hS.cell (i := 3) rfl); (try have hD3 := (cells_heap hC3).1); (try have hE3 := (cells_heap hC3).2.1); (try have hF3 := (cells_heap hC3).2.2.1); (try have hG3 := (cells_heap hC3).2.2.2.1); (try have hC4 := hS.cell (i := 4) rfl); (try have hD4 := (cells_heap hC4).1); (try have hE4 := (cells_heap hC4).2.1); (try have hF4 := (cells_heap hC4).2.2.1); (try have hG4 := (cells_heap hC4).2.2.2.1); (try have hM0 := hS.map (i := 0) rfl); (try have hM1 := hS.map (i := 1) rfl); (try have hM2 := hS.map (i := 2) rfl); (try have hM3 := hS.map (i := 3) rfl); (try have hM4 := hS.map (i := 4) rfl))
      | (apply WL.storeB (w0 := w0) tOk; (iterate 4 exact rfl); assumption; (exact extA); (iterate 3 exact rfl); (exact extA); (first | assumption | omega | (focus (apply Nat.le_trans; rotate_left; assumption; exact Below.size (by (exact extA)); done))); intro w' hb hc hX' hU; have hcc := hc; obtain ⟨h1, h2, _⟩ := hc; (first | replace hS := Sep.updCell (i := 0) rfl hU hb hS (by (exact extA)) (by (first | exact Nat.le_refl _ | exact Below.size (by (exact extA)))) | replace hS := Sep.updCell (i := 1) rfl hU hb hS (by (exact extA)) (by (first | exact Nat.le_refl _ | exact Below.size (by (exact extA)))) | replace hS := Sep.updCell (i := 2) rfl hU hb hS (by (exact extA)) (by (first | exact Nat.le_refl _ | exact Below.size (by (exact extA)))) | replace hS := Sep.updCell (i := 3) rfl hU hb hS (by (exact extA)) (by (first | exact Nat.le_refl _ | exact Below.size (by (exact extA))))); (try simp only [List.set_cons_zero, List.set_cons_succ] at hS); (try have hR0 := hS.row (i := 0) rfl); (try have hR1 := hS.row (i := 1) rfl); (try have hR2 := hS.row (i := 2) rfl); (try have hR3 := hS.row (i := 3) rfl); (try have hR4 := hS.row (i := 4) rfl); (try have hC0 := hS.cell (i := 0) rfl); (try have hD0 := (cells_heap hC0).1); (try have hE0 := (cells_heap hC0).2.1); (try have hF0 := (cells_heap hC0).2.2.1); (try have hG0 := (cells_heap hC0).2.2.2.1); (try have hC1 := hS.cell (i := 1) rfl); (try have hD1 := (cells_heap hC1).1); (try have hE1 := (cells_heap hC1).2.1); (try have hF1 := (cells_heap hC1).2.2.1); (try have hG1 := (cells_heap hC1).2.2.2.1); (try have hC2 := hS.cell (i := 2) rfl); (try have hD2 := (cells_heap hC2).1); (try have hE2 := (cells_heap hC2).2.1); (try have hF2 := (cells_heap hC2).2.2.1); (try have hG2 := (cells_heap hC2).2.2.2.1); (try have hC3 := hS.cell (i := 3) rfl); (try have hD3 := (cells_heap hC3).1); (try have hE3 := (cells_heap hC3).2.1); (try have hF3 := (cells_heap hC3).2.2.1); (try have hG3 := (cells_heap hC3).2.2.2.1); (try have hC4 := hS.cell (i := 4) rfl); (try have hD4 := (cells_heap hC4).1); (try have hE4 := (cells_heap hC4).2.1); (try have hF4 := (cells_heap hC4).2.2.1); (try have hG4 := (cells_heap hC4).2.2.2.1); (try have hM0 := hS.map (i := 0) rfl); (try have hM1 := hS.map (i := 1) rfl); (try have hM2 := hS.map (i := 2) rfl); (try have hM3 := hS.map (i := 3) rfl); (try have hM4 := hS.map (i := 4) rfl))
      | (show WL _ _ _ _ _ _ _; first | apply WL.nil | (refine WL.au (k := ?_)))
      | (show Z _ _ _ _ _; apply Z.then_normal)
      | (show W _ _ _ _ _ _; first | apply W.seq | apply W.region | apply W.block)
      | fail)
    have hS0 := Sep.back32 hS
    obtain ⟨g7, rfl⟩ : ∃ x, x = gb := ⟨_, rfl⟩
    refine W.loopO2 n.length (fun k la lc bi bd w' => k ≤ n.length ∧ Ext w0 w' ∧ (∃ a' cap', Sep w0.heap.size w' (stN w0.heap.size gs a' cap' r (cto N n ins k).2.2 ++ (pcell g7 #[.slice la (cto N n ins k).1.length lc] 22 :: prow 1 encI 3 w0.heap.size la lc (cto N n ins k).1 :: rest))) ∧ Keeps w0 gs r rest (fun w' => Row 1 encI w' bi (ins.drop (cto N n ins k).2.1)) ∧ (ins.drop (cto N n ins k).2.1).length ≤ bd)
      (fun k la lc bi bd => [(0, .pointer (some ⟨gs, 0, none⟩)), (2, .slice bi (ins.drop (cto N n ins k).2.1).length bd), (7, .pointer (some ⟨g7, 0, none⟩)), (8, .func (.func 112) #[] #[.pointer (some ⟨g7, 0, none⟩)]), (21, .slice an n.length cn), (22, .int .i64 n.length), (23, .int .i64 k)])
      (some ⟨gl, 0, none⟩) _ al cl ⟨by omega, (by (exact extA)), ⟨a, cap, hS0⟩, hi, hcl⟩ (fun k la lc bi bd w' h => h.1) ⟨rfl, rfl, rfl, rfl, rfl, rfl, rfl, trivial⟩ ?_
    rintro k la lc bi bd w9 ⟨hk, hX9, ⟨a2, cap2, hS9⟩, hib, hbd⟩
    obtain ⟨i1, i2, i3, i4, i5, i6⟩ := cto_inv (N := N) hg hh k hk
    have Rn := hn _ _ _ _ hX9 (Sep.drop34 hS9)
    have Ri := hib _ _ _ _ hX9 (Sep.drop34 hS9)
    have hS := hS9
    by_cases hlt : k < n.length
    · obtain ⟨x, hxn⟩ := getI n hlt
      have hs := cto_succ (N := N) (ins := ins) hxn
      by_cases hin : 0 ≤ x.1
      · have hgt := hg.gate hxn hin
        obtain ⟨za, hza⟩ := getI (cto N n ins k).1 (show (x.1 / 2).toNat < (cto N n ins k).1.length by omega)
        obtain ⟨zb, hzb⟩ := getI (cto N n ins k).1 (show (x.2 / 2).toNat < (cto N n ins k).1.length by omega)
        have ba : 0 ≤ za ∧ za ≤ 9223372036854775806 := by have := i2 za (List.mem_of_getElem? hza); unfold hasL at this; omega
        have bb : 0 ≤ zb ∧ zb ≤ 9223372036854775806 := by have := i2 zb (List.mem_of_getElem? hzb); unfold hasL at this; omega
        have hv := andV_has (hasL_litI i2 (x := x.1) (by omega)) (hasL_litI i2 (x := x.2) (by omega))
        have q0 : ¬ (andV (cto N n ins k).2.2 (litI (cto N n ins k).1 x.1) (litI (cto N n ins k).1 x.2)).1 < 0 := by have := hv.1; omega
        have e1 : (cto N n ins (k + 1)).1 = (cto N n ins k).1 ++ [(andV (cto N n ins k).2.2 (litI (cto N n ins k).1 x.1) (litI (cto N n ins k).1 x.2)).1] := by rw [hs, cstep, if_pos hin]
        have e2 : (cto N n ins (k + 1)).2.1 = (cto N n ins k).2.1 := by rw [hs, cstep, if_pos hin]
        have e3 : (cto N n ins (k + 1)).2.2 = (andV (cto N n ins k).2.2 (litI (cto N n ins k).1 x.1) (litI (cto N n ins k).1 x.2)).2 := by rw [hs, cstep, if_pos hin]
        repeat' (first
          | (apply W.condKT; exact rfl; (focus (first | exact dec_true (by omega) | exact dec_false q0; done)))
          | (apply WL.alloc tOk; (iterate 3 exact rfl); intro gb w' hb hge hx; replace hS := Sep.newCell (Sep.ext hS (by (exact extA))) hx hb hge (by (first | exact Nat.le_refl _ | exact Below.size (by (exact extA)))); (try simp only [List.set_cons_zero, List.set_cons_succ] at hS); (try have hR0 := hS.row (i := 0) rfl); (try have hR1 := hS.row (i := 1) rfl); (try have hR2 := hS.row (i := 2) rfl); (try have hR3 := hS.row (i := 3) rfl); (try have hR4 := hS.row (i := 4) rfl); (try have hC0 := hS.cell (i := 0) rfl); (try have hD0 := (cells_heap hC0).1); (try have hE0 := (cells_heap hC0).2.1); (try have hF0 := (cells_heap hC0).2.2.1); (try have hG0 := (cells_heap hC0).2.2.2.1); (try have hC1 := hS.cell (i := 1) rfl); (try have hD1 := (cells_heap hC1).1); (try have hE1 := (cells_heap hC1).2.1); (try have hF1 := (cells_heap hC1).2.2.1); (try have hG1 := (cells_heap hC1).2.2.2.1); (try have hC2 := hS.cell (i := 2) rfl); (try have hD2 := (cells_heap hC2).1); (try have hE2 := (cells_heap hC2).2.1); (try have hF2 := (cells_heap hC2).2.2.1); (try have hG2 := (cells_heap hC2).2.2.2.1); (try have hC3 := hS.cell (i := 3) rfl); (try have hD3 := (cells_heap hC3).1); (try have hE3 := (cells_heap hC3).2.1); (try have hF3 := (cells_heap hC3).2.2.1); (try have hG3 := (cells_heap hC3).2.2.2.1); (try have hC4 := hS.cell (i := 4) rfl); (try have hD4 := (cells_heap hC4).1); (try have hE4 := (cells_heap hC4).2.1); (try have hF4 := (cells_heap hC4).2.2.1); (try have hG4 := (cells_heap hC4).2.2.2.1); (try have hM0 := hS.map (i := 0) rfl); (try have hM1 := hS.map (i := 1) rfl); (try have hM2 := hS.map (i := 2) rfl); (try have hM3 := hS.map (i := 3) rfl); (try have hM4 := hS.map (i := 4) rfl))
          | (apply WL.storeB (w0 := w0) tOk; (iterate 4 exact rfl); assumption; (exact extA); (iterate 3 exact rfl); (exact extA); (first | assumption | omega | (focus (apply Nat.le_trans; rotate_left; assumption; exact Below.size (by (exact extA)); done))); intro w' hb hc hX' hU; have hcc := hc; obtain ⟨h1, h2, _⟩ := hc; (first | replace hS := Sep.updCell (i := 0) rfl hU hb hS (by (exact extA)) (by (first | exact Nat.le_refl _ | exact Below.size (by (exact extA)))) | replace hS := Sep.updCell (i := 1) rfl hU hb hS (by (exact extA)) (by (first | exact Nat.le_refl _ | exact Below.size (by (exact extA)))) | replace hS := Sep.updCell (i := 2) rfl hU hb hS (by (exact extA)) (by (first | exact Nat.le_refl _ | exact Below.size (by (exact extA)))) | replace hS := Sep.updCell (i := 3) rfl hU hb hS (by (exact extA)) (by (first | exact Nat.le_refl _ | exact Below.size (by (exact extA))))); (try simp only [List.set_cons_zero, List.set_cons_succ] at hS); (try have hR0 := hS.row (i := 0) rfl); (try have hR1 := hS.row (i := 1) rfl); (try have hR2 := hS.row (i := 2) rfl); (try have hR3 := hS.row (i := 3) rfl); (try have hR4 := hS.row (i := 4) rfl); (try have hC0 := hS.cell (i := 0) rfl); (try have hD0 := (cells_heap hC0).1); (try have hE0 := (cells_heap hC0).2.1); (try have hF0 := (cells_heap hC0).2.2.1); (try have hG0 := (cells_heap hC0).2.2.2.1); (try have hC1 := hS.cell (i := 1) rfl); (try have hD1 := (cells_heap hC1).1); (try have hE1 := (cells_heap hC1).2.1); (try have hF1 := (cells_heap hC1).2.2.1); (try have hG1 := (cells_heap hC1).2.2.2.1); (try have hC2 := hS.cell (i := 2) rfl); (try have hD2 := (cells_heap hC2).1); (try have hE2 := (cells_heap hC2).2.1); (try have hF2 := (cells_heap hC2).2.2.1); (try have hG2 := (cells_heap hC2).2.2.2.1); (try have hC3 := hS.cell (i := 3) rfl); (try have hD3 := (cells_heap hC3).1); (try have hE3 := (cells_heap hC3).2.1); (try have hF3 := (cells_heap hC3).2.2.1); (try have hG3 := (cells_heap hC3).2.2.2.1); (try have hC4 := hS.cell (i := 4) rfl); (try have hD4 := (cells_heap hC4).1); (try have hE4 := (cells_heap hC4).2.1); (try have hF4 := (cells_heap hC4).2.2.1); (try have hG4 := (cells_heap hC4).2.2.2.1); (try have hM0 := hS.map (i := 0) rfl); (try have hM1 := hS.map (i := 1) rfl); (try have hM2 := hS.map (i := 2) rfl); (try have hM3 := hS.map (i := 3) rfl); (try have hM4 := hS.map (i := 4) rfl))
          | (apply W.regionQS 9 tMix; kernel_rfl; exact rfl; kernel_rfl; kernel_rfl)
          | ((show QL _ _ _ _ (⟨_, .call ⟨.value (.tmp _), _, _⟩, _, _, _, _⟩ :: _) _ _); apply QL.callS; (iterate 4 exact rfl); exact aig_Copy1 g7 lc la (cto N n ins k).1 x.1 za _ (Ext.heap (by (exact extA)) (hS.cell (i := 4) rfl)) (Row.ext (Own.row encI_ok (hS.row (i := 5) rfl)) (by (exact extA))) hza (by omega) ba)
          | ((show QL _ _ _ _ (⟨_, .call ⟨.value (.tmp _), _, _⟩, _, _, _, _⟩ :: _) _ _); apply QL.callS; (iterate 4 exact rfl); exact aig_Copy1 g7 lc la (cto N n ins k).1 x.2 zb _ (Ext.heap (by (exact extA)) (hS.cell (i := 4) rfl)) (Row.ext (Own.row encI_ok (hS.row (i := 5) rfl)) (by (exact extA))) hzb (by omega) bb)
          | (show WL _ _ _ _ _ _ _; first | apply WL.nil | (refine WL.au (k := ?_)) | (apply WL.index tOk; (iterate 8 exact rfl); assumption; (exact extA); exact rfl; omega; assumption; intro b off h; have hcc := h; first | (obtain ⟨h1, h2, h3, h4, h5, h6, _⟩ := h) | (obtain ⟨h1, h2, h3, _⟩ := h) | (obtain ⟨h1, h2, _⟩ := h) | (obtain ⟨h1, _⟩ := h)))
          | (show QL _ _ _ _ _ _ _; first | apply QL.nil | (refine QL.au (k := ?_)))
          | (show Z _ _ _ _ _; first | apply Z.tail | apply Z.then_normal)
          | (show W _ _ _ _ _ _; first | apply W.seq | apply W.region | apply W.block | apply W.skip)
          | fail)
        repeat' (first
          | (((show WL _ _ _ (⟨_, .call ⟨.value (.func 113), _, _⟩, _, _, _, _⟩ :: _) _ _ _); have hS8 : Lt.Sep w0.heap.size _ (stN w0.heap.size gs a2 cap2 r (cto N n ins k).2.2 ++ (pcell g7 #[.slice la (cto N n ins k).1.length lc] 22 :: prow 1 encI 3 w0.heap.size la lc (cto N n ins k).1 :: rest)) := Sep.tail hS; apply WL.call; (iterate 4 exact rfl); exact aig_And gs r _ _ (cto N n ins k).2.2 _ _ (pcell g7 #[.slice la (cto N n ins k).1.length lc] 22 :: prow 1 encI 3 w0.heap.size la lc (cto N n ins k).1 :: rest) _ w0 (by (exact extA)) hS8 (by omega); rintro v' w8 ⟨hX8, a8, cap8, rfl, hS⟩; (try simp only [List.set_cons_zero, List.set_cons_succ] at hS); (try have hR0 := hS.row (i := 0) rfl); (try have hR1 := hS.row (i := 1) rfl); (try have hR2 := hS.row (i := 2) rfl); (try have hR3 := hS.row (i := 3) rfl); (try have hR4 := hS.row (i := 4) rfl); (try have hC0 := hS.cell (i := 0) rfl); (try have hD0 := (cells_heap hC0).1); (try have hE0 := (cells_heap hC0).2.1); (try have hF0 := (cells_heap hC0).2.2.1); (try have hG0 := (cells_heap hC0).2.2.2.1); (try have hC1 := hS.cell (i := 1) rfl); (try have hD1 := (cells_heap hC1).1); (try have hE1 := (cells_heap hC1).2.1); (try have hF1 := (cells_heap hC1).2.2.1); (try have hG1 := (cells_heap hC1).2.2.2.1); (try have hC2 := hS.cell (i := 2) rfl); (try have hD2 := (cells_heap hC2).1); (try have hE2 := (cells_heap hC2).2.1); (try have hF2 := (cells_heap hC2).2.2.1); (try have hG2 := (cells_heap hC2).2.2.2.1); (try have hC3 := hS.cell (i := 3) rfl); (try have hD3 := (cells_heap hC3).1); (try have hE3 := (cells_heap hC3).2.1); (try have hF3 := (cells_heap hC3).2.2.1); (try have hG3 := (cells_heap hC3).2.2.2.1); (try have hC4 := hS.cell (i := 4) rfl); (try have hD4 := (cells_heap hC4).1); (try have hE4 := (cells_heap hC4).2.1); (try have hF4 := (cells_heap hC4).2.2.1); (try have hG4 := (cells_heap hC4).2.2.2.1); (try have hM0 := hS.map (i := 0) rfl); (try have hM1 := hS.map (i := 1) rfl); (try have hM2 := hS.map (i := 2) rfl); (try have hM3 := hS.map (i := 3) rfl); (try have hM4 := hS.map (i := 4) rfl)))
          | (apply W.condKF; exact rfl; (focus (exact dec_false q0; done)))
          | (apply WL.lit tOk; (iterate 6 exact rfl); (first | exact rfl | kernel_rfl | (simp [Instr.fill, catCells]; done)); exact rfl; intro gb w' hb hge hc hx)
          | (apply WL.append1 (z := ((andV (cto N n ins k).2.2 (litI (cto N n ins k).1 x.1) (litI (cto N n ins k).1 x.2)).1)) tOk encI_ok; (iterate 10 exact rfl); assumption; (exact extA); (first | exact rfl | (focus (simp only [List.length_set]; done)) | (focus (simp; done)) | (focus (simp [*]; done)) | omega | (focus (simp only [List.length_set]; omega))); (first | assumption | (refine Cells.ext ?_ (by assumption); exact extA)); exact rfl; exact rfl; (exact extA); (first | omega | (simp; omega) | (simp at *; omega)); intro a' cap' w' hO hX' hU hF; (first | replace hS := Sep.updRow (i := 0) rfl hU hO hF hS (by (exact extA)) (by (first | exact Nat.le_refl _ | exact Below.size (by (exact extA)))) | replace hS := Sep.updRow (i := 1) rfl hU hO hF hS (by (exact extA)) (by (first | exact Nat.le_refl _ | exact Below.size (by (exact extA)))) | replace hS := Sep.updRow (i := 2) rfl hU hO hF hS (by (exact extA)) (by (first | exact Nat.le_refl _ | exact Below.size (by (exact extA)))) | replace hS := Sep.updRow (i := 3) rfl hU hO hF hS (by (exact extA)) (by (first | exact Nat.le_refl _ | exact Below.size (by (exact extA)))) | replace hS := Sep.updRow (i := 4) rfl hU hO hF hS (by (exact extA)) (by (first | exact Nat.le_refl _ | exact Below.size (by (exact extA)))) | replace hS := Sep.updRow (i := 5) rfl hU hO hF hS (by (exact extA)) (by (first | exact Nat.le_refl _ | exact Below.size (by (exact extA))))); (try simp only [List.set_cons_zero, List.set_cons_succ] at hS); (try have hR0 := hS.row (i := 0) rfl); (try have hR1 := hS.row (i := 1) rfl); (try have hR2 := hS.row (i := 2) rfl); (try have hR3 := hS.row (i := 3) rfl); (try have hR4 := hS.row (i := 4) rfl); (try have hC0 := hS.cell (i := 0) rfl); (try have hD0 := (cells_heap hC0).1); (try have hE0 := (cells_heap hC0).2.1); (try have hF0 := (cells_heap hC0).2.2.1); (try have hG0 := (cells_heap hC0).2.2.2.1); (try have hC1 := hS.cell (i := 1) rfl); (try have hD1 := (cells_heap hC1).1); (try have hE1 := (cells_heap hC1).2.1); (try have hF1 := (cells_heap hC1).2.2.1); (try have hG1 := (cells_heap hC1).2.2.2.1); (try have hC2 := hS.cell (i := 2) rfl); (try have hD2 := (cells_heap hC2).1); (try have hE2 := (cells_heap hC2).2.1); (try have hF2 := (cells_heap hC2).2.2.1); (try have hG2 := (cells_heap hC2).2.2.2.1); (try have hC3 := hS.cell (i := 3) rfl); (try have hD3 := (cells_heap hC3).1); (try have hE3 := (cells_heap hC3).2.1); (try have hF3 := (cells_heap hC3).2.2.1); (try have hG3 := (cells_heap hC3).2.2.2.1); (try have hC4 := hS.cell (i := 4) rfl); (try have hD4 := (cells_heap hC4).1); (try have hE4 := (cells_heap hC4).2.1); (try have hF4 := (cells_heap hC4).2.2.1); (try have hG4 := (cells_heap hC4).2.2.2.1); (try have hM0 := hS.map (i := 0) rfl); (try have hM1 := hS.map (i := 1) rfl); (try have hM2 := hS.map (i := 2) rfl); (try have hM3 := hS.map (i := 3) rfl); (try have hM4 := hS.map (i := 4) rfl))
          | (apply WL.storeB (w0 := w0) tOk; (iterate 4 exact rfl); assumption; (exact extA); (iterate 3 exact rfl); (exact extA); (first | assumption | omega | (focus (apply Nat.le_trans; rotate_left; assumption; exact Below.size (by (exact extA)); done))); intro w' hb hc hX' hU; have hcc := hc; obtain ⟨h1, h2, _⟩ := hc; (first | replace hS := Sep.updCell (i := 0) rfl hU hb hS (by (exact extA)) (by (first | exact Nat.le_refl _ | exact Below.size (by (exact extA)))) | replace hS := Sep.updCell (i := 1) rfl hU hb hS (by (exact extA)) (by (first | exact Nat.le_refl _ | exact Below.size (by (exact extA)))) | replace hS := Sep.updCell (i := 2) rfl hU hb hS (by (exact extA)) (by (first | exact Nat.le_refl _ | exact Below.size (by (exact extA)))) | replace hS := Sep.updCell (i := 3) rfl hU hb hS (by (exact extA)) (by (first | exact Nat.le_refl _ | exact Below.size (by (exact extA))))); (try simp only [List.set_cons_zero, List.set_cons_succ] at hS); (try have hR0 := hS.row (i := 0) rfl); (try have hR1 := hS.row (i := 1) rfl); (try have hR2 := hS.row (i := 2) rfl); (try have hR3 := hS.row (i := 3) rfl); (try have hR4 := hS.row (i := 4) rfl); (try have hC0 := hS.cell (i := 0) rfl); (try have hD0 := (cells_heap hC0).1); (try have hE0 := (cells_heap hC0).2.1); (try have hF0 := (cells_heap hC0).2.2.1); (try have hG0 := (cells_heap hC0).2.2.2.1); (try have hC1 := hS.cell (i := 1) rfl); (try have hD1 := (cells_heap hC1).1); (try have hE1 := (cells_heap hC1).2.1); (try have hF1 := (cells_heap hC1).2.2.1); (try have hG1 := (cells_heap hC1).2.2.2.1); (try have hC2 := hS.cell (i := 2) rfl); (try have hD2 := (cells_heap hC2).1); (try have hE2 := (cells_heap hC2).2.1); (try have hF2 := (cells_heap hC2).2.2.1); (try have hG2 := (cells_heap hC2).2.2.2.1); (try have hC3 := hS.cell (i := 3) rfl); (try have hD3 := (cells_heap hC3).1); (try have hE3 := (cells_heap hC3).2.1); (try have hF3 := (cells_heap hC3).2.2.1); (try have hG3 := (cells_heap hC3).2.2.2.1); (try have hC4 := hS.cell (i := 4) rfl); (try have hD4 := (cells_heap hC4).1); (try have hE4 := (cells_heap hC4).2.1); (try have hF4 := (cells_heap hC4).2.2.1); (try have hG4 := (cells_heap hC4).2.2.2.1); (try have hM0 := hS.map (i := 0) rfl); (try have hM1 := hS.map (i := 1) rfl); (try have hM2 := hS.map (i := 2) rfl); (try have hM3 := hS.map (i := 3) rfl); (try have hM4 := hS.map (i := 4) rfl))
          | (show WL _ _ _ _ _ _ _; first | apply WL.nil | (refine WL.au (k := ?_)))
          | (show Z _ _ _ _ _; first | apply Z.then_normal | apply Z.block_normal)
          | (show W _ _ _ _ _ _; first | apply W.seq | apply W.region | apply W.skip)
          | fail)
        exact Z.againO2 a' cap' bi bd ⟨by omega, by assumption, ⟨a8, cap8, by rw [e3, e1]; exact hS⟩, by rw [e2]; exact hib, by rw [e2]; exact hbd⟩ (by repeat' first | exact trivial | (refine And.intro ?_ ?_) | exact rfl | (rw [e1]; exact rfl) | (rw [e2]; exact rfl))
      · by_cases hki : (cto N n ins k).2.1 < ins.length
        · obtain ⟨z, hz⟩ := getI ins hki
          have hz' : (ins.drop (cto N n ins k).2.1)[0]? = some z := by rw [List.getElem?_drop]; exact hz
          have hdl : 0 < (ins.drop (cto N n ins k).2.1).length := by rw [List.length_drop]; omega
          have hzh := hh z (List.mem_of_getElem? hz)
          have q0 : ¬ z < 0 := by have := hzh.1; omega
          have e1 : (cto N n ins (k + 1)).1 = (cto N n ins k).1 ++ [z] := by rw [hs, cstep, if_neg hin, if_pos hki, getD_of hz]
          have e2 : (cto N n ins (k + 1)).2.1 = (cto N n ins k).2.1 + 1 := by rw [hs, cstep, if_neg hin, if_pos hki]
          have e3 : (cto N n ins (k + 1)).2.2 = (cto N n ins k).2.2 := by rw [hs, cstep, if_neg hin, if_pos hki]
          have e4 : (ins.drop (cto N n ins k).2.1).drop 1 = ins.drop (cto N n ins (k + 1)).2.1 := by rw [e2, List.drop_drop]
          have e7 : (ins.drop (cto N n ins (k + 1)).2.1).length = (ins.drop (cto N n ins k).2.1).length - Int.toNat 1 := by rw [← e4, List.length_drop]; rfl
          repeat' (first
            | (apply W.condKT; exact rfl; (focus (first | exact dec_true (by omega) | exact dec_false (by omega) | exact dec_false q0; done)))
            | (apply W.condKF; exact rfl; (focus (first | exact dec_true (by omega) | exact dec_false (by omega) | exact dec_false q0; done)))
            | (apply WL.alloc tOk; (iterate 3 exact rfl); intro gb w' hb hge hx; replace hS := Sep.newCell (Sep.ext hS (by (exact extA))) hx hb hge (by (first | exact Nat.le_refl _ | exact Below.size (by (exact extA)))); (try simp only [List.set_cons_zero, List.set_cons_succ] at hS); (try have hR0 := hS.row (i := 0) rfl); (try have hR1 := hS.row (i := 1) rfl); (try have hR2 := hS.row (i := 2) rfl); (try have hR3 := hS.row (i := 3) rfl); (try have hR4 := hS.row (i := 4) rfl); (try have hC0 := hS.cell (i := 0) rfl); (try have hD0 := (cells_heap hC0).1); (try have hE0 := (cells_heap hC0).2.1); (try have hF0 := (cells_heap hC0).2.2.1); (try have hG0 := (cells_heap hC0).2.2.2.1); (try have hC1 := hS.cell (i := 1) rfl); (try have hD1 := (cells_heap hC1).1); (try have hE1 := (cells_heap hC1).2.1); (try have hF1 := (cells_heap hC1).2.2.1); (try have hG1 := (cells_heap hC1).2.2.2.1); (try have hC2 := hS.cell (i := 2) rfl); (try have hD2 := (cells_heap hC2).1); (try have hE2 := (cells_heap hC2).2.1); (try have hF2 := (cells_heap hC2).2.2.1); (try have hG2 := (cells_heap hC2).2.2.2.1); (try have hC3 := hS.cell (i := 3) rfl); (try have hD3 := (cells_heap hC3).1); (try have hE3 := (cells_heap hC3).2.1); (try have hF3 := (cells_heap hC3).2.2.1); (try have hG3 := (cells_heap hC3).2.2.2.1); (try have hC4 := hS.cell (i := 4) rfl); (try have hD4 := (cells_heap hC4).1); (try have hE4 := (cells_heap hC4).2.1); (try have hF4 := (cells_heap hC4).2.2.1); (try have hG4 := (cells_heap hC4).2.2.2.1); (try have hM0 := hS.map (i := 0) rfl); (try have hM1 := hS.map (i := 1) rfl); (try have hM2 := hS.map (i := 2) rfl); (try have hM3 := hS.map (i := 3) rfl); (try have hM4 := hS.map (i := 4) rfl))
            | (apply WL.storeB (w0 := w9) tOk; (iterate 4 exact rfl); assumption; (exact extA); (iterate 3 exact rfl); (exact extA); (first | assumption | omega | (focus (apply Nat.le_trans; rotate_left; assumption; exact Below.size (by (exact extA)); done))); intro w' hb hc hX' hU; have hcc := hc; obtain ⟨h1, h2, _⟩ := hc; (first | replace hS := Sep.updCell (i := 0) rfl hU hb hS (by (exact extA)) (by (first | exact Nat.le_refl _ | exact Below.size (by (exact extA)))) | replace hS := Sep.updCell (i := 1) rfl hU hb hS (by (exact extA)) (by (first | exact Nat.le_refl _ | exact Below.size (by (exact extA)))) | replace hS := Sep.updCell (i := 2) rfl hU hb hS (by (exact extA)) (by (first | exact Nat.le_refl _ | exact Below.size (by (exact extA)))) | replace hS := Sep.updCell (i := 3) rfl hU hb hS (by (exact extA)) (by (first | exact Nat.le_refl _ | exact Below.size (by (exact extA))))); (try simp only [List.set_cons_zero, List.set_cons_succ] at hS); (try have hR0 := hS.row (i := 0) rfl); (try have hR1 := hS.row (i := 1) rfl); (try have hR2 := hS.row (i := 2) rfl); (try have hR3 := hS.row (i := 3) rfl); (try have hR4 := hS.row (i := 4) rfl); (try have hC0 := hS.cell (i := 0) rfl); (try have hD0 := (cells_heap hC0).1); (try have hE0 := (cells_heap hC0).2.1); (try have hF0 := (cells_heap hC0).2.2.1); (try have hG0 := (cells_heap hC0).2.2.2.1); (try have hC1 := hS.cell (i := 1) rfl); (try have hD1 := (cells_heap hC1).1); (try have hE1 := (cells_heap hC1).2.1); (try have hF1 := (cells_heap hC1).2.2.1); (try have hG1 := (cells_heap hC1).2.2.2.1); (try have hC2 := hS.cell (i := 2) rfl); (try have hD2 := (cells_heap hC2).1); (try have hE2 := (cells_heap hC2).2.1); (try have hF2 := (cells_heap hC2).2.2.1); (try have hG2 := (cells_heap hC2).2.2.2.1); (try have hC3 := hS.cell (i := 3) rfl); (try have hD3 := (cells_heap hC3).1); (try have hE3 := (cells_heap hC3).2.1); (try have hF3 := (cells_heap hC3).2.2.1); (try have hG3 := (cells_heap hC3).2.2.2.1); (try have hC4 := hS.cell (i := 4) rfl); (try have hD4 := (cells_heap hC4).1); (try have hE4 := (cells_heap hC4).2.1); (try have hF4 := (cells_heap hC4).2.2.1); (try have hG4 := (cells_heap hC4).2.2.2.1); (try have hM0 := hS.map (i := 0) rfl); (try have hM1 := hS.map (i := 1) rfl); (try have hM2 := hS.map (i := 2) rfl); (try have hM3 := hS.map (i := 3) rfl); (try have hM4 := hS.map (i := 4) rfl))
            | (show W _ _ (.region 13 _ _) _ _ _; apply W.regionGX (.fl true 0 (.fl true 1 (.fl true 3 (.fl true 4 (.fl false 2 (.fl true 5 (.fl true 6 .done))))))) [] tMix; kernel_rfl)
            | (apply FL.sliceL0 tOk; (iterate 8 exact rfl); omega)
            | (apply WL.lit tOk; (iterate 6 exact rfl); (first | exact rfl | kernel_rfl | (simp [Instr.fill, catCells]; done)); exact rfl; intro gb w' hb hge hc hx)
            | (show SX _ _ _ _ _ _ _ _ _; first | (apply SX.done; intro w' hx) | (apply SX.fl0; exact rfl) | (apply SX.fl1; exact rfl; (exact extA)))
            | (show FL _ _ _ _ _ _ _ _; first | apply FL.nilX | (apply FL.loadE tOk; (iterate 5 exact rfl); (first | assumption | (focus (apply Ext.cell; rotate_left; assumption; exact extA; done)))) | (apply FL.indexE tOk; (iterate 8 exact rfl); assumption; exact rfl; omega; assumption; intro b off h; have hcc := h; first | (obtain ⟨h1, h2, h3, h4, h5, h6, _⟩ := h) | (obtain ⟨h1, h2, h3, _⟩ := h) | (obtain ⟨h1, h2, _⟩ := h) | (obtain ⟨h1, _⟩ := h)))
            | (show FL _ _ _ _ _ _ _ _; (refine FL.au (k := ?_)))
            | (show WL _ _ _ _ _ _ _; first | apply WL.nil | (refine WL.au (k := ?_)) | (apply WL.index tOk; (iterate 8 exact rfl); assumption; (exact extA); exact rfl; omega; assumption; intro b off h; have hcc := h; first | (obtain ⟨h1, h2, h3, h4, h5, h6, _⟩ := h) | (obtain ⟨h1, h2, h3, _⟩ := h) | (obtain ⟨h1, h2, _⟩ := h) | (obtain ⟨h1, _⟩ := h)))
            | (show Z _ _ _ _ _; first | apply Z.then_normal | apply Z.block_normal)
            | (show W _ _ _ _ _ _; first | apply W.seq | apply W.region | apply W.block | apply W.skip)
            | fail)
          replace hS := Sep.tail hS
          (try simp only [List.set_cons_zero, List.set_cons_succ] at hS); (try have hR0 := hS.row (i := 0) rfl); (try have hR1 := hS.row (i := 1) rfl); (try have hR2 := hS.row (i := 2) rfl); (try have hR3 := hS.row (i := 3) rfl); (try have hR4 := hS.row (i := 4) rfl); (try have hC0 := hS.cell (i := 0) rfl); (try have hD0 := (cells_heap hC0).1); (try have hE0 := (cells_heap hC0).2.1); (try have hF0 := (cells_heap hC0).2.2.1); (try have hG0 := (cells_heap hC0).2.2.2.1); (try have hC1 := hS.cell (i := 1) rfl); (try have hD1 := (cells_heap hC1).1); (try have hE1 := (cells_heap hC1).2.1); (try have hF1 := (cells_heap hC1).2.2.1); (try have hG1 := (cells_heap hC1).2.2.2.1); (try have hC2 := hS.cell (i := 2) rfl); (try have hD2 := (cells_heap hC2).1); (try have hE2 := (cells_heap hC2).2.1); (try have hF2 := (cells_heap hC2).2.2.1); (try have hG2 := (cells_heap hC2).2.2.2.1); (try have hC3 := hS.cell (i := 3) rfl); (try have hD3 := (cells_heap hC3).1); (try have hE3 := (cells_heap hC3).2.1); (try have hF3 := (cells_heap hC3).2.2.1); (try have hG3 := (cells_heap hC3).2.2.2.1); (try have hC4 := hS.cell (i := 4) rfl); (try have hD4 := (cells_heap hC4).1); (try have hE4 := (cells_heap hC4).2.1); (try have hF4 := (cells_heap hC4).2.2.1); (try have hG4 := (cells_heap hC4).2.2.2.1); (try have hM0 := hS.map (i := 0) rfl); (try have hM1 := hS.map (i := 1) rfl); (try have hM2 := hS.map (i := 2) rfl); (try have hM3 := hS.map (i := 3) rfl); (try have hM4 := hS.map (i := 4) rfl)
          have hRd : Keeps w0 gs r rest (fun w' => Row 1 encI w' (subA bi bd 1 1) (ins.drop (cto N n ins (k + 1)).2.1)) := fun w' a' cap' N' h1 h2 => by rw [← e4]; exact Row.dropAt (hib w' a' cap' N' h1 h2) 1 bd hbd
          repeat' (first
            | (apply WL.append1 (z := (z)) tOk encI_ok; (iterate 10 exact rfl); assumption; (exact extA); (first | exact rfl | (focus (simp only [List.length_set]; done)) | (focus (simp; done)) | (focus (simp [*]; done)) | omega | (focus (simp only [List.length_set]; omega))); (first | assumption | (refine Cells.ext ?_ (by assumption); exact extA)); exact rfl; exact rfl; (exact extA); (first | omega | (simp; omega) | (simp at *; omega)); intro a' cap' w' hO hX' hU hF; (first | replace hS := Sep.updRow (i := 0) rfl hU hO hF hS (by (exact extA)) (by (first | exact Nat.le_refl _ | exact Below.size (by (exact extA)))) | replace hS := Sep.updRow (i := 1) rfl hU hO hF hS (by (exact extA)) (by (first | exact Nat.le_refl _ | exact Below.size (by (exact extA)))) | replace hS := Sep.updRow (i := 2) rfl hU hO hF hS (by (exact extA)) (by (first | exact Nat.le_refl _ | exact Below.size (by (exact extA)))) | replace hS := Sep.updRow (i := 3) rfl hU hO hF hS (by (exact extA)) (by (first | exact Nat.le_refl _ | exact Below.size (by (exact extA)))) | replace hS := Sep.updRow (i := 4) rfl hU hO hF hS (by (exact extA)) (by (first | exact Nat.le_refl _ | exact Below.size (by (exact extA)))) | replace hS := Sep.updRow (i := 5) rfl hU hO hF hS (by (exact extA)) (by (first | exact Nat.le_refl _ | exact Below.size (by (exact extA))))); (try simp only [List.set_cons_zero, List.set_cons_succ] at hS); (try have hR0 := hS.row (i := 0) rfl); (try have hR1 := hS.row (i := 1) rfl); (try have hR2 := hS.row (i := 2) rfl); (try have hR3 := hS.row (i := 3) rfl); (try have hR4 := hS.row (i := 4) rfl); (try have hC0 := hS.cell (i := 0) rfl); (try have hD0 := (cells_heap hC0).1); (try have hE0 := (cells_heap hC0).2.1); (try have hF0 := (cells_heap hC0).2.2.1); (try have hG0 := (cells_heap hC0).2.2.2.1); (try have hC1 := hS.cell (i := 1) rfl); (try have hD1 := (cells_heap hC1).1); (try have hE1 := (cells_heap hC1).2.1); (try have hF1 := (cells_heap hC1).2.2.1); (try have hG1 := (cells_heap hC1).2.2.2.1); (try have hC2 := hS.cell (i := 2) rfl); (try have hD2 := (cells_heap hC2).1); (try have hE2 := (cells_heap hC2).2.1); (try have hF2 := (cells_heap hC2).2.2.1); (try have hG2 := (cells_heap hC2).2.2.2.1); (try have hC3 := hS.cell (i := 3) rfl); (try have hD3 := (cells_heap hC3).1); (try have hE3 := (cells_heap hC3).2.1); (try have hF3 := (cells_heap hC3).2.2.1); (try have hG3 := (cells_heap hC3).2.2.2.1); (try have hC4 := hS.cell (i := 4) rfl); (try have hD4 := (cells_heap hC4).1); (try have hE4 := (cells_heap hC4).2.1); (try have hF4 := (cells_heap hC4).2.2.1); (try have hG4 := (cells_heap hC4).2.2.2.1); (try have hM0 := hS.map (i := 0) rfl); (try have hM1 := hS.map (i := 1) rfl); (try have hM2 := hS.map (i := 2) rfl); (try have hM3 := hS.map (i := 3) rfl); (try have hM4 := hS.map (i := 4) rfl))
            | (apply WL.storeB (w0 := w0) tOk; (iterate 4 exact rfl); assumption; (exact extA); (iterate 3 exact rfl); (exact extA); (first | assumption | omega | (focus (apply Nat.le_trans; rotate_left; assumption; exact Below.size (by (exact extA)); done))); intro w' hb hc hX' hU; have hcc := hc; obtain ⟨h1, h2, _⟩ := hc; (first | replace hS := Sep.updCell (i := 0) rfl hU hb hS (by (exact extA)) (by (first | exact Nat.le_refl _ | exact Below.size (by (exact extA)))) | replace hS := Sep.updCell (i := 1) rfl hU hb hS (by (exact extA)) (by (first | exact Nat.le_refl _ | exact Below.size (by (exact extA)))) | replace hS := Sep.updCell (i := 2) rfl hU hb hS (by (exact extA)) (by (first | exact Nat.le_refl _ | exact Below.size (by (exact extA)))) | replace hS := Sep.updCell (i := 3) rfl hU hb hS (by (exact extA)) (by (first | exact Nat.le_refl _ | exact Below.size (by (exact extA))))); (try simp only [List.set_cons_zero, List.set_cons_succ] at hS); (try have hR0 := hS.row (i := 0) rfl); (try have hR1 := hS.row (i := 1) rfl); (try have hR2 := hS.row (i := 2) rfl); (try have hR3 := hS.row (i := 3) rfl); (try have hR4 := hS.row (i := 4) rfl); (try have hC0 := hS.cell (i := 0) rfl); (try have hD0 := (cells_heap hC0).1); (try have hE0 := (cells_heap hC0).2.1); (try have hF0 := (cells_heap hC0).2.2.1); (try have hG0 := (cells_heap hC0).2.2.2.1); (try have hC1 := hS.cell (i := 1) rfl); (try have hD1 := (cells_heap hC1).1); (try have hE1 := (cells_heap hC1).2.1); (try have hF1 := (cells_heap hC1).2.2.1); (try have hG1 := (cells_heap hC1).2.2.2.1); (try have hC2 := hS.cell (i := 2) rfl); (try have hD2 := (cells_heap hC2).1); (try have hE2 := (cells_heap hC2).2.1); (try have hF2 := (cells_heap hC2).2.2.1); (try have hG2 := (cells_heap hC2).2.2.2.1); (try have hC3 := hS.cell (i := 3) rfl); (try have hD3 := (cells_heap hC3).1); (try have hE3 := (cells_heap hC3).2.1); (try have hF3 := (cells_heap hC3).2.2.1); (try have hG3 := (cells_heap hC3).2.2.2.1); (try have hC4 := hS.cell (i := 4) rfl); (try have hD4 := (cells_heap hC4).1); (try have hE4 := (cells_heap hC4).2.1); (try have hF4 := (cells_heap hC4).2.2.1); (try have hG4 := (cells_heap hC4).2.2.2.1); (try have hM0 := hS.map (i := 0) rfl); (try have hM1 := hS.map (i := 1) rfl); (try have hM2 := hS.map (i := 2) rfl); (try have hM3 := hS.map (i := 3) rfl); (try have hM4 := hS.map (i := 4) rfl))
            | (show WL _ _ _ _ _ _ _; first | apply WL.nil | (refine WL.au (k := ?_)))
            | (show Z _ _ _ _ _; first | apply Z.then_normal | apply Z.block_normal)
            | (show W _ _ _ _ _ _; apply W.region)
            | fail)
          exact Z.againO2 a' cap' (subA bi bd 1 1) (bd - 1) ⟨by omega, by assumption, ⟨a2, cap2, by rw [e3, e1]; exact hS⟩, hRd, by rw [e7]; show _ ≤ bd - 1; omega⟩ (by repeat' first | exact trivial | (refine And.intro ?_ ?_) | exact rfl | (rw [e1]; exact rfl) | (rw [e7]; exact rfl))
        · have hd0 : (ins.drop (cto N n ins k).2.1).length = 0 := by rw [List.length_drop]; omega
          have e1 : (cto N n ins (k + 1)).1 = (cto N n ins k).1 ++ [2 * (((cto N n ins k).2.2.length : Int) + 1)] := by rw [hs, cstep, if_neg hin, if_neg hki]
          have e2 : (cto N n ins (k + 1)).2.1 = (cto N n ins k).2.1 + 1 := by rw [hs, cstep, if_neg hin, if_neg hki]
          have e3 : (cto N n ins (k + 1)).2.2 = (cto N n ins k).2.2 ++ [(-1, 0)] := by rw [hs, cstep, if_neg hin, if_neg hki]
          have e4 : ins.drop (cto N n ins (k + 1)).2.1 = ins.drop (cto N n ins k).2.1 := by rw [e2, List.drop_eq_nil_of_le (by omega), List.drop_eq_nil_of_le (by omega)]
          repeat' (first
            | (apply W.condKT; exact rfl; (focus (first | exact dec_true (by omega) | exact dec_false (by omega); done)))
            | (apply W.condKF; exact rfl; (focus (first | exact dec_true (by omega) | exact dec_false (by omega); done)))
            | (apply WL.alloc tOk; (iterate 3 exact rfl); intro gb w' hb hge hx; replace hS := Sep.newCell (Sep.ext hS (by (exact extA))) hx hb hge (by (first | exact Nat.le_refl _ | exact Below.size (by (exact extA)))); (try simp only [List.set_cons_zero, List.set_cons_succ] at hS); (try have hR0 := hS.row (i := 0) rfl); (try have hR1 := hS.row (i := 1) rfl); (try have hR2 := hS.row (i := 2) rfl); (try have hR3 := hS.row (i := 3) rfl); (try have hR4 := hS.row (i := 4) rfl); (try have hC0 := hS.cell (i := 0) rfl); (try have hD0 := (cells_heap hC0).1); (try have hE0 := (cells_heap hC0).2.1); (try have hF0 := (cells_heap hC0).2.2.1); (try have hG0 := (cells_heap hC0).2.2.2.1); (try have hC1 := hS.cell (i := 1) rfl); (try have hD1 := (cells_heap hC1).1); (try have hE1 := (cells_heap hC1).2.1); (try have hF1 := (cells_heap hC1).2.2.1); (try have hG1 := (cells_heap hC1).2.2.2.1); (try have hC2 := hS.cell (i := 2) rfl); (try have hD2 := (cells_heap hC2).1); (try have hE2 := (cells_heap hC2).2.1); (try have hF2 := (cells_heap hC2).2.2.1); (try have hG2 := (cells_heap hC2).2.2.2.1); (try have hC3 := hS.cell (i := 3) rfl); (try have hD3 := (cells_heap hC3).1); (try have hE3 := (cells_heap hC3).2.1); (try have hF3 := (cells_heap hC3).2.2.1); (try have hG3 := (cells_heap hC3).2.2.2.1); (try have hC4 := hS.cell (i := 4) rfl); (try have hD4 := (cells_heap hC4).1); (try have hE4 := (cells_heap hC4).2.1); (try have hF4 := (cells_heap hC4).2.2.1); (try have hG4 := (cells_heap hC4).2.2.2.1); (try have hM0 := hS.map (i := 0) rfl); (try have hM1 := hS.map (i := 1) rfl); (try have hM2 := hS.map (i := 2) rfl); (try have hM3 := hS.map (i := 3) rfl); (try have hM4 := hS.map (i := 4) rfl))
            | (apply WL.storeB (w0 := w0) tOk; (iterate 4 exact rfl); assumption; (exact extA); (iterate 3 exact rfl); (exact extA); (first | assumption | omega | (focus (apply Nat.le_trans; rotate_left; assumption; exact Below.size (by (exact extA)); done))); intro w' hb hc hX' hU; have hcc := hc; obtain ⟨h1, h2, _⟩ := hc; (first | replace hS := Sep.updCell (i := 0) rfl hU hb hS (by (exact extA)) (by (first | exact Nat.le_refl _ | exact Below.size (by (exact extA)))) | replace hS := Sep.updCell (i := 1) rfl hU hb hS (by (exact extA)) (by (first | exact Nat.le_refl _ | exact Below.size (by (exact extA)))) | replace hS := Sep.updCell (i := 2) rfl hU hb hS (by (exact extA)) (by (first | exact Nat.le_refl _ | exact Below.size (by (exact extA)))) | replace hS := Sep.updCell (i := 3) rfl hU hb hS (by (exact extA)) (by (first | exact Nat.le_refl _ | exact Below.size (by (exact extA))))); (try simp only [List.set_cons_zero, List.set_cons_succ] at hS); (try have hR0 := hS.row (i := 0) rfl); (try have hR1 := hS.row (i := 1) rfl); (try have hR2 := hS.row (i := 2) rfl); (try have hR3 := hS.row (i := 3) rfl); (try have hR4 := hS.row (i := 4) rfl); (try have hC0 := hS.cell (i := 0) rfl); (try have hD0 := (cells_heap hC0).1); (try have hE0 := (cells_heap hC0).2.1); (try have hF0 := (cells_heap hC0).2.2.1); (try have hG0 := (cells_heap hC0).2.2.2.1); (try have hC1 := hS.cell (i := 1) rfl); (try have hD1 := (cells_heap hC1).1); (try have hE1 := (cells_heap hC1).2.1); (try have hF1 := (cells_heap hC1).2.2.1); (try have hG1 := (cells_heap hC1).2.2.2.1); (try have hC2 := hS.cell (i := 2) rfl); (try have hD2 := (cells_heap hC2).1); (try have hE2 := (cells_heap hC2).2.1); (try have hF2 := (cells_heap hC2).2.2.1); (try have hG2 := (cells_heap hC2).2.2.2.1); (try have hC3 := hS.cell (i := 3) rfl); (try have hD3 := (cells_heap hC3).1); (try have hE3 := (cells_heap hC3).2.1); (try have hF3 := (cells_heap hC3).2.2.1); (try have hG3 := (cells_heap hC3).2.2.2.1); (try have hC4 := hS.cell (i := 4) rfl); (try have hD4 := (cells_heap hC4).1); (try have hE4 := (cells_heap hC4).2.1); (try have hF4 := (cells_heap hC4).2.2.1); (try have hG4 := (cells_heap hC4).2.2.2.1); (try have hM0 := hS.map (i := 0) rfl); (try have hM1 := hS.map (i := 1) rfl); (try have hM2 := hS.map (i := 2) rfl); (try have hM3 := hS.map (i := 3) rfl); (try have hM4 := hS.map (i := 4) rfl))
            | (((show WL _ _ _ (⟨_, .call ⟨.value (.func 90), _, _⟩, _, _, _, _⟩ :: _) _ _ _); have hS8 : Lt.Sep w0.heap.size _ (stN w0.heap.size gs a2 cap2 r (cto N n ins k).2.2 ++ (pcell g7 #[.slice la (cto N n ins k).1.length lc] 22 :: prow 1 encI 3 w0.heap.size la lc (cto N n ins k).1 :: rest)) := Sep.tail hS; apply WL.call; (iterate 4 exact rfl); exact aig_InputV gs r _ _ (cto N n ins k).2.2 (pcell g7 #[.slice la (cto N n ins k).1.length lc] 22 :: prow 1 encI 3 w0.heap.size la lc (cto N n ins k).1 :: rest) _ w0 (by (exact extA)) hS8 (by omega); rintro v' w8 ⟨hX8, a8, cap8, rfl, hS⟩; (try simp only [List.set_cons_zero, List.set_cons_succ] at hS); (try have hR0 := hS.row (i := 0) rfl); (try have hR1 := hS.row (i := 1) rfl); (try have hR2 := hS.row (i := 2) rfl); (try have hR3 := hS.row (i := 3) rfl); (try have hR4 := hS.row (i := 4) rfl); (try have hC0 := hS.cell (i := 0) rfl); (try have hD0 := (cells_heap hC0).1); (try have hE0 := (cells_heap hC0).2.1); (try have hF0 := (cells_heap hC0).2.2.1); (try have hG0 := (cells_heap hC0).2.2.2.1); (try have hC1 := hS.cell (i := 1) rfl); (try have hD1 := (cells_heap hC1).1); (try have hE1 := (cells_heap hC1).2.1); (try have hF1 := (cells_heap hC1).2.2.1); (try have hG1 := (cells_heap hC1).2.2.2.1); (try have hC2 := hS.cell (i := 2) rfl); (try have hD2 := (cells_heap hC2).1); (try have hE2 := (cells_heap hC2).2.1); (try have hF2 := (cells_heap hC2).2.2.1); (try have hG2 := (cells_heap hC2).2.2.2.1); (try have hC3 := hS.cell (i := 3) rfl); (try have hD3 := (cells_heap hC3).1); (try have hE3 := (cells_heap hC3).2.1); (try have hF3 := (cells_heap hC3).2.2.1); (try have hG3 := (cells_heap hC3).2.2.2.1); (try have hC4 := hS.cell (i := 4) rfl); (try have hD4 := (cells_heap hC4).1); (try have hE4 := (cells_heap hC4).2.1); (try have hF4 := (cells_heap hC4).2.2.1); (try have hG4 := (cells_heap hC4).2.2.2.1); (try have hM0 := hS.map (i := 0) rfl); (try have hM1 := hS.map (i := 1) rfl); (try have hM2 := hS.map (i := 2) rfl); (try have hM3 := hS.map (i := 3) rfl); (try have hM4 := hS.map (i := 4) rfl)))
            | (apply WL.lit tOk; (iterate 6 exact rfl); (first | exact rfl | kernel_rfl | (simp [Instr.fill, catCells]; done)); exact rfl; intro gb w' hb hge hc hx)
            | (apply WL.append1 (z := (2 * (((cto N n ins k).2.2.length : Int) + 1))) tOk encI_ok; (iterate 10 exact rfl); assumption; (exact extA); (first | exact rfl | (focus (simp only [List.length_set]; done)) | (focus (simp; done)) | (focus (simp [*]; done)) | omega | (focus (simp only [List.length_set]; omega))); (first | assumption | (refine Cells.ext ?_ (by assumption); exact extA)); exact rfl; exact rfl; (exact extA); (first | omega | (simp; omega) | (simp at *; omega)); intro a' cap' w' hO hX' hU hF; (first | replace hS := Sep.updRow (i := 0) rfl hU hO hF hS (by (exact extA)) (by (first | exact Nat.le_refl _ | exact Below.size (by (exact extA)))) | replace hS := Sep.updRow (i := 1) rfl hU hO hF hS (by (exact extA)) (by (first | exact Nat.le_refl _ | exact Below.size (by (exact extA)))) | replace hS := Sep.updRow (i := 2) rfl hU hO hF hS (by (exact extA)) (by (first | exact Nat.le_refl _ | exact Below.size (by (exact extA)))) | replace hS := Sep.updRow (i := 3) rfl hU hO hF hS (by (exact extA)) (by (first | exact Nat.le_refl _ | exact Below.size (by (exact extA)))) | replace hS := Sep.updRow (i := 4) rfl hU hO hF hS (by (exact extA)) (by (first | exact Nat.le_refl _ | exact Below.size (by (exact extA)))) | replace hS := Sep.updRow (i := 5) rfl hU hO hF hS (by (exact extA)) (by (first | exact Nat.le_refl _ | exact Below.size (by (exact extA))))); (try simp only [List.set_cons_zero, List.set_cons_succ] at hS); (try have hR0 := hS.row (i := 0) rfl); (try have hR1 := hS.row (i := 1) rfl); (try have hR2 := hS.row (i := 2) rfl); (try have hR3 := hS.row (i := 3) rfl); (try have hR4 := hS.row (i := 4) rfl); (try have hC0 := hS.cell (i := 0) rfl); (try have hD0 := (cells_heap hC0).1); (try have hE0 := (cells_heap hC0).2.1); (try have hF0 := (cells_heap hC0).2.2.1); (try have hG0 := (cells_heap hC0).2.2.2.1); (try have hC1 := hS.cell (i := 1) rfl); (try have hD1 := (cells_heap hC1).1); (try have hE1 := (cells_heap hC1).2.1); (try have hF1 := (cells_heap hC1).2.2.1); (try have hG1 := (cells_heap hC1).2.2.2.1); (try have hC2 := hS.cell (i := 2) rfl); (try have hD2 := (cells_heap hC2).1); (try have hE2 := (cells_heap hC2).2.1); (try have hF2 := (cells_heap hC2).2.2.1); (try have hG2 := (cells_heap hC2).2.2.2.1); (try have hC3 := hS.cell (i := 3) rfl); (try have hD3 := (cells_heap hC3).1); (try have hE3 := (cells_heap hC3).2.1); (try have hF3 := (cells_heap hC3).2.2.1); (try have hG3 := (cells_heap hC3).2.2.2.1); (try have hC4 := hS.cell (i := 4) rfl); (try have hD4 := (cells_heap hC4).1); (try have hE4 := (cells_heap hC4).2.1); (try have hF4 := (cells_heap hC4).2.2.1); (try have hG4 := (cells_heap hC4).2.2.2.1); (try have hM0 := hS.map (i := 0) rfl); (try have hM1 := hS.map (i := 1) rfl); (try have hM2 := hS.map (i := 2) rfl); (try have hM3 := hS.map (i := 3) rfl); (try have hM4 := hS.map (i := 4) rfl))
            | (show WL _ _ _ _ _ _ _; first | apply WL.nil | (refine WL.au (k := ?_)) | (apply WL.index tOk; (iterate 8 exact rfl); assumption; (exact extA); exact rfl; omega; assumption; intro b off h; have hcc := h; first | (obtain ⟨h1, h2, h3, h4, h5, h6, _⟩ := h) | (obtain ⟨h1, h2, h3, _⟩ := h) | (obtain ⟨h1, h2, _⟩ := h) | (obtain ⟨h1, _⟩ := h)))
            | (show Z _ _ _ _ _; first | apply Z.then_normal | apply Z.block_normal)
            | (show W _ _ _ _ _ _; first | apply W.seq | apply W.region | apply W.block | apply W.skip)
            | fail)
          exact Z.againO2 a' cap' bi bd ⟨by omega, by assumption, ⟨a8, cap8, by rw [e3, e1]; exact hS⟩, by rw [e4]; exact hib, by rw [e4]; exact hbd⟩ (by repeat' first | exact trivial | (refine And.intro ?_ ?_) | exact rfl | (rw [e1]; exact rfl) | (rw [e4]; exact rfl))
    · obtain rfl : k = n.length := by omega
      have hl7 := (cells_heap (hS9.cell (i := 3) rfl)).1
      repeat' (first
        | (apply W.condKF; exact rfl; (focus (exact dec_false (by omega); done)))
        | (show WL _ _ _ _ _ _ _; first | apply WL.nil | (refine WL.au (k := ?_)))
        | (show Z _ _ _ _ _; first | apply Z.then_normal | apply Z.then_exit | apply Z.block_exit)
        | (show W _ _ _ _ _ _; first | apply W.seq | apply W.region | apply W.ret | apply W.exit)
        | fail)
      exact Z.body1 Try.results55 rfl fun m => ⟨hX9.at m, a2, cap2, la, lc, rfl, (Sep.drop3 hS9).ext ((Ext.refl _).at m)⟩
  · have e : copyV N n ins = ([], N) := by unfold copyV; rw [dec_false hh]; rfl
    rw [e]
    refine Spec.of _ Try.func55 rfl Try.ntmps55 (by kernel_rfl) rfl ?_
    repeat' (first
      | ((show WL _ _ _ (⟨_, .call ⟨.value (.func 111), _, _⟩, _, _, _, _⟩ :: _) _ _ _); apply WL.callP; (iterate 4 exact rfl); exact aig_has _ _ _ _ _ N ins _ _ hC0 RI (by omega); intro w' hx)
      | (apply W.condKT; exact rfl; (focus ((rw [dec_false hh]; rfl); done)))
      | (show WL _ _ _ _ _ _ _; first | apply WL.nil | (refine WL.au (k := ?_)))
      | (show Z _ _ _ _ _; first | apply Z.then_normal | apply Z.then_ret)
      | (show W _ _ _ _ _ _; first | apply W.seq | apply W.region | apply W.ret)
      | fail)
    have hS1 := hS.ext hx
    have hX1 := hX.trans hx
    have hS3 : Lt.Sep w0.heap.size w' (stN w0.heap.size gs a cap r N ++ (prow 1 encI 3 w0.heap.size none 0 [] :: rest)) := Sep.back31 (Sep.newRow hS1 (Ext.refl _) Own.nil (fun k hk => by cases hk) hX1.size)
    exact Z.body1 Try.results55 rfl fun m => ⟨hX1.at m, a, cap, none, 0, rfl, hS3.ext ((Ext.refl _).at m)⟩
end Go.Proofs.Yteidpnpbfagaeaa
namespace Go.Proofs.Yteidpnpbfagaeaa
open Go Go.Lt Go.RowKit
set_option linter.unusedVariables false
set_option linter.unusedSimpArgs false
set_option maxRecDepth 20000

/-- Nodes, and where variables are. -/
abbrev NA := List (Int × Int) × List Int
noncomputable def cput (s : NA) (l : Int) (x : Int × Int) : NA := (s.1 ++ [x], s.2.set (l / 2).toNat (2 * ((s.1.length : Int) + 1)))
noncomputable def cIn (s : NA) (ls : List Int) : NA := ls.foldl (fun s l => cput s l (-1, 0)) s
abbrev gAt (gs : List G3) (i : Nat) : G3 := gs.getD i (0, 0, 0)
noncomputable def cGate (gs : List G3) (s : NA) (i : Nat) : NA := cput s (gAt gs i).1 (litI s.2 (gAt gs i).2.1, litI s.2 (gAt gs i).2.2)
noncomputable def cGates (gs : List G3) (s : NA) (L : List Nat) : NA := L.foldl (cGate gs) s
def cAt0 (m : Int) : List Int := 0 :: List.replicate m.toNat (-1)
noncomputable def cNet (c : CirT) : NA := cGates c.gates (cIn ([], cAt0 c.max) (c.ins ++ c.lat.map (·.1))) (ordL c.gates)
theorem cIn_snoc (s : NA) (ls : List Int) (l : Int) : cIn s (ls ++ [l]) = cput (cIn s ls) l (-1, 0) := by unfold cIn; rw [List.foldl_append]; rfl
theorem cGates_snoc (gs : List G3) (s : NA) (L : List Nat) (i : Nat) : cGates gs s (L ++ [i]) = cGate gs (cGates gs s L) i := by unfold cGates; rw [List.foldl_append]; rfl

structure PutOk (s : NA) (q : List Int) (m : Nat) : Prop where
  len1 : s.1.length = q.length
  len2 : s.2.length = m + 1
  zero : s.2[0]? = some 0
  has : ∀ (i : Nat) (l : Int), q[i]? = some l → s.2[(l / 2).toNat]? = some (2 * ((i : Int) + 1))
  not : ∀ v : Nat, 1 ≤ v → v ≤ m → (∀ l ∈ q, (l / 2).toNat ≠ v) → s.2[v]? = some (-1)
theorem PutOk.start (m : Nat) : PutOk ([], cAt0 (m : Int)) [] m := by
  refine ⟨rfl, by simp [cAt0], rfl, fun i l h => by simp at h, fun v h1 h2 _ => ?_⟩
  show (0 :: List.replicate (m : Int).toNat (-1 : Int))[v]? = _
  obtain ⟨u, rfl⟩ : ∃ u, v = u + 1 := ⟨v - 1, by omega⟩
  rw [List.getElem?_cons_succ, List.getElem?_replicate, if_pos (by omega)]
theorem PutOk.push {s : NA} {q : List Int} {m : Nat} (h : PutOk s q m) {l : Int} (hl : 2 ≤ l ∧ l % 2 = 0 ∧ l ≤ 2 * (m : Int)) (hq : ∀ y ∈ q, 2 ≤ y ∧ y % 2 = 0) (hn : l ∉ q) (x : Int × Int) : PutOk (cput s l x) (q ++ [l]) m := by
  have hlen := h.len2
  have hs : ∀ y ∈ q, (l / 2).toNat ≠ (y / 2).toNat := fun y hy he => hn (by have := hq y hy; rw [show l = y by omega]; exact hy)
  refine ⟨by simp [cput, h.len1], by simp [cput, h.len2], ?_, fun i y hy => ?_, fun v h1 h2 h3 => ?_⟩
  · show (s.2.set _ _)[0]? = _
    rw [List.getElem?_set_ne (by omega)]; exact h.zero
  · show (s.2.set _ _)[(y / 2).toNat]? = _
    by_cases hi : i < q.length
    · rw [List.getElem?_append_left hi] at hy
      rw [List.getElem?_set_ne (hs y (List.mem_of_getElem? hy))]
      exact h.has i y hy
    · rw [List.getElem?_append_right (by omega)] at hy
      have h0 : i - q.length = 0 := by have := lt_of_get hy; simpa using this
      obtain rfl : i = q.length := by omega
      simp at hy; subst hy
      rw [List.getElem?_set_self (by omega), h.len1]
  · show (s.2.set _ _)[v]? = _
    rw [List.getElem?_set_ne (h3 l (by simp))]
    exact h.not v h1 h2 fun y hy => h3 y (by simp [hy])
theorem PutOk.ge {s : NA} {q : List Int} {m : Nat} (h : PutOk s q m) {l : Int} (hl : l / 2 = 0 ∨ ∃ y ∈ q, y / 2 = l / 2) : ∃ z, s.2[(l / 2).toNat]? = some z ∧ 0 ≤ z ∧ z % 2 = 0 ∧ z ≤ 2 * (s.1.length : Int) := by
  rcases hl with hl | ⟨y, hy, he⟩
  · exact ⟨0, by rw [hl]; exact h.zero, by decide, by decide, by omega⟩
  · obtain ⟨i, hi⟩ := List.mem_iff_getElem?.1 hy
    have h1 := h.has i y hi
    rw [he] at h1
    have h2 := lt_of_get hi
    have := h.len1
    exact ⟨_, h1, by omega, by omega, by omega⟩
theorem litI_some {l : List Int} {x z : Int} (hz : l[(x / 2).toNat]? = some z) : litI l x = xorI z (x % 2) := by unfold litI; rw [getD_of hz]
/-- All inputs and latches, put. -/
theorem cIn_ok {m : Nat} : ∀ (ls : List Int) (s : NA) (q : List Int), PutOk s q m → (∀ y ∈ q, 2 ≤ y ∧ y % 2 = 0) → (∀ l ∈ ls, 2 ≤ l ∧ l % 2 = 0 ∧ l ≤ 2 * (m : Int)) → (q ++ ls).Nodup → GoodNet s.1 → PutOk (cIn s ls) (q ++ ls) m ∧ GoodNet (cIn s ls).1
  | [], s, q, h, _, _, _, hg => by rw [List.append_nil]; exact ⟨h, hg⟩
  | l :: ls, s, q, h, hq, hl, hn, hg => by
    have hl1 := hl l (by simp)
    have hnl : l ∉ q := fun hm => by
      rw [List.nodup_append] at hn
      exact hn.2.2 l hm l (by simp) rfl
    have h1 := h.push hl1 hq hnl (-1, 0)
    have h2 := cIn_ok ls (cput s l (-1, 0)) (q ++ [l]) h1 (fun y hy => by
      rcases List.mem_append.1 hy with hy | hy
      · exact hq y hy
      · rw [List.mem_singleton.1 hy]; exact ⟨hl1.1, hl1.2.1⟩) (fun y hy => hl y (by simp [hy])) (by simpa using hn) (fun i x hx => ?_)
    · have e : q ++ [l] ++ ls = q ++ l :: ls := by simp
      rw [e] at h2
      exact h2
    · have hx' : (s.1 ++ [((-1, 0) : Int × Int)])[i]? = some x := hx
      by_cases hi : i < s.1.length
      · rw [List.getElem?_append_left hi] at hx'; exact hg i x hx'
      · rw [List.getElem?_append_right (by omega)] at hx'
        have h0 : i - s.1.length = 0 := by have := lt_of_get hx'; simpa using this
        rw [h0] at hx'
        simp at hx'; subst hx'
        unfold badNode; simp

/-- The literals in the order in which they are put. -/
noncomputable abbrev CirT.seq (c : CirT) : List Int := c.ins ++ c.lat.map (·.1) ++ (ordL c.gates).map (fun i => (gAt c.gates i).1)
abbrev CirT.inl (c : CirT) : List Int := c.ins ++ c.lat.map (·.1)
theorem gAt_of {gs : List G3} {i : Nat} {g : G3} (h : gs[i]? = some g) : gAt gs i = g := getD_of h
theorem GoodC'.gate {c : CirT} (h : GoodC' c) {i : Nat} {g : G3} (hg : c.gates[i]? = some g) : (2 ≤ g.1 ∧ g.1 % 2 = 0 ∧ g.1 ≤ 2 * c.max) ∧ (0 ≤ g.2.1 ∧ g.2.1 ≤ 2 * c.max + 1) ∧ (0 ≤ g.2.2 ∧ g.2.2 ≤ 2 * c.max + 1) := by
  have hm := List.mem_of_getElem? hg
  refine ⟨h.own _ (List.mem_append_right _ (List.mem_map.2 ⟨g, hm, rfl⟩)), h.used _ (List.mem_append_right _ (List.mem_flatMap.2 ⟨g, hm, by simp⟩)), h.used _ (List.mem_append_right _ (List.mem_flatMap.2 ⟨g, hm, by simp⟩))⟩
/-- What is used is put, if all gates are on which it may hang. -/
theorem used_put {c : CirT} (h : GoodC' c) {l : Int} (hl : l ∈ c.used) {T : List Nat} (hT : ∀ (j : Nat) (x : G3), c.gates[j]? = some x → j ∉ T → x.1 / 2 ≠ l / 2) : l / 2 = 0 ∨ ∃ y ∈ c.inl ++ T.map (fun i => (gAt c.gates i).1), y / 2 = l / 2 := by
  have h0 := h.used l hl
  rcases Int.lt_or_le 1 l with h1 | h1
  · right
    have h2 := h.has l hl h1
    rcases List.mem_append.1 h2 with h3 | h3
    · exact ⟨_, List.mem_append_left _ h3, by omega⟩
    · obtain ⟨g, hg, he⟩ := List.mem_map.1 h3
      obtain ⟨j, hj⟩ := List.mem_iff_getElem?.1 hg
      have hjT : j ∈ T := Classical.byContradiction fun hn => hT j g hj hn (by omega)
      exact ⟨g.1, List.mem_append_right _ (List.mem_map.2 ⟨j, hjT, by rw [gAt_of hj]⟩), by omega⟩
  · left; omega
theorem inl_once {c : CirT} (h : GoodC' c) : c.inl.Nodup := by
  have := h.once
  rw [List.nodup_append] at this
  exact this.1
/-- A gate's literal is put but once. -/
theorem gate_new {c : CirT} (h : GoodC' c) {i : Nat} {g : G3} (hg : c.gates[i]? = some g) {T : List Nat} (hT : ∀ j ∈ T, j < c.gates.length) (hi : i ∉ T) : g.1 ∉ c.inl ++ T.map (fun i => (gAt c.gates i).1) := by
  intro hm
  have ho := h.once
  rw [List.nodup_append] at ho
  rcases List.mem_append.1 hm with h1 | h1
  · exact ho.2.2 _ h1 _ (List.mem_map.2 ⟨g, List.mem_of_getElem? hg, rfl⟩) rfl
  · obtain ⟨j, hj, he⟩ := List.mem_map.1 h1
    obtain ⟨x, hx⟩ := getI c.gates (hT j hj)
    rw [gAt_of hx] at he
    have hp := List.pairwise_iff_getElem.1 (List.nodup_iff_pairwise_ne.1 ho.2.1)
    have li : i < (c.gates.map (·.1)).length := by rw [List.length_map]; exact lt_of_get hg
    have lj : j < (c.gates.map (·.1)).length := by rw [List.length_map]; exact lt_of_get hx
    have ei : (c.gates.map (·.1))[i] = g.1 := by have := (List.getElem?_eq_some_iff.1 hg).2; simp [this]
    have ej : (c.gates.map (·.1))[j] = x.1 := by have := (List.getElem?_eq_some_iff.1 hx).2; simp [this]
    have hne : i ≠ j := fun e => hi (by rw [e]; exact hj)
    rcases Nat.lt_or_gt_of_ne hne with h2 | h2
    · exact hp i j li lj h2 (by rw [ei, ej, he])
    · exact hp j i lj li h2 (by rw [ei, ej, he])
theorem net_to {c : CirT} (h : GoodC' c) : ∀ k, k ≤ (ordL c.gates).length →
    PutOk (cGates c.gates (cIn ([], cAt0 c.max) c.inl) ((ordL c.gates).take k)) (c.inl ++ ((ordL c.gates).take k).map (fun i => (gAt c.gates i).1)) c.max.toNat ∧ GoodNet (cGates c.gates (cIn ([], cAt0 c.max) c.inl) ((ordL c.gates).take k)).1 := by
  have hm : ((c.max.toNat : Nat) : Int) = c.max := by have := h.max; omega
  intro k
  induction k with
  | zero =>
    intro _
    have h1 := cIn_ok (m := c.max.toNat) c.inl ([], cAt0 c.max) [] (by have := PutOk.start c.max.toNat; rwa [hm] at this) (fun y hy => by cases hy) (fun l hl => by rw [hm]; exact h.own l (List.mem_append_left _ hl)) (by rw [List.nil_append]; exact inl_once h) (fun i x hx => by simp at hx)
    simpa [cGates] using h1
  | succ k ih =>
    intro hk
    obtain ⟨i, hi⟩ := getI (ordL c.gates) (show k < _ by omega)
    obtain ⟨h1, h2⟩ := ih (by omega)
    have hO := (ordL_is c.gates).1
    obtain ⟨g, hg, hn, hr⟩ := (hO k i hi).1
    have hgg := h.gate hg
    have hm' := List.mem_of_getElem? hg
    have ua : g.2.1 ∈ c.used := List.mem_append_right _ (List.mem_flatMap.2 ⟨g, hm', by simp⟩)
    have ub : g.2.2 ∈ c.used := List.mem_append_right _ (List.mem_flatMap.2 ⟨g, hm', by simp⟩)
    have pa := h1.ge (used_put h ua fun j x hx hj => (hr j x hx hj).1)
    have pb := h1.ge (used_put h ub fun j x hx hj => (hr j x hx hj).2)
    have hlt : ∀ j ∈ (ordL c.gates).take k, j < c.gates.length := fun j hj => hO.lt j (List.mem_of_mem_take hj)
    rw [take_succ' hi, cGates_snoc, List.map_append, ← List.append_assoc]
    have eg : gAt c.gates i = g := gAt_of hg
    have hsq : ∀ y ∈ c.inl ++ ((ordL c.gates).take k).map (fun i => (gAt c.gates i).1), 2 ≤ y ∧ y % 2 = 0 := fun y hy => by
      have : y ∈ c.own := by
        rcases List.mem_append.1 hy with hy | hy
        · exact List.mem_append_left _ hy
        · obtain ⟨j, hj, rfl⟩ := List.mem_map.1 hy
          obtain ⟨x, hx⟩ := getI c.gates (hlt j hj)
          exact List.mem_append_right _ (List.mem_map.2 ⟨x, List.mem_of_getElem? hx, by rw [gAt_of hx]⟩)
      exact ⟨(h.own y this).1, (h.own y this).2.1⟩
    have hp := h1.push (l := g.1) (by rw [hm]; exact hgg.1) hsq (gate_new h hg hlt hn)
    refine ⟨?_, ?_⟩
    · unfold cGate; rw [List.map_singleton, eg]; exact hp _
    · unfold cGate; rw [eg]
      intro j x hx
      have hx' : ((cGates c.gates (cIn ([], cAt0 c.max) c.inl) ((ordL c.gates).take k)).1 ++ [_])[j]? = some x := hx
      obtain ⟨za, a1, a2, a3, a4⟩ := pa
      obtain ⟨zb, b1, b2, b3, b4⟩ := pb
      rw [litI_some a1, litI_some b1] at hx'
      by_cases hj : j < (cGates c.gates (cIn ([], cAt0 c.max) c.inl) ((ordL c.gates).take k)).1.length
      · rw [List.getElem?_append_left hj] at hx'; exact h2 j x hx'
      · rw [List.getElem?_append_right (by omega)] at hx'
        have h0 : j - (cGates c.gates (cIn ([], cAt0 c.max) c.inl) ((ordL c.gates).take k)).1.length = 0 := by have := lt_of_get hx'; simpa using this
        rw [h0] at hx'
        simp only [List.getElem?_cons_zero, Option.some.injEq] at hx'
        subst hx'
        have ka : 0 ≤ xorI za (g.2.1 % 2) ∧ xorI za (g.2.1 % 2) ≤ za + 1 := by unfold xorI Lt.xor1; split <;> (try split) <;> omega
        have kb : 0 ≤ xorI zb (g.2.2 % 2) ∧ xorI zb (g.2.2 % 2) ≤ zb + 1 := by unfold xorI Lt.xor1; split <;> (try split) <;> omega
        unfold badNode
        dsimp only
        omega
theorem cNet_ok {c : CirT} (h : GoodC' c) : PutOk (cNet c) c.seq c.max.toNat ∧ GoodNet (cNet c).1 := by
  have h1 := net_to h _ (Nat.le_refl _)
  rw [List.take_length] at h1
  exact h1
/-- All gates are told. -/
theorem ord_all {c : CirT} (h : GoodC' c) {i : Nat} (hi : i < c.gates.length) : i ∈ ordL c.gates := by
  refine Classical.byContradiction fun hn => ?_
  have hO := (ordL_is c.gates).1
  have h1 := nodup_le c.gates.length (i :: ordL c.gates) (List.nodup_cons.2 ⟨hn, hO.nodup⟩) (fun j hj => by
    rcases List.mem_cons.1 hj with rfl | hj
    · exact hi
    · exact hO.lt j hj)
  have := h.ord
  simp only [List.length_cons] at h1
  omega
theorem seq_all {c : CirT} (h : GoodC' c) {l : Int} (hl : l ∈ c.own) : l ∈ c.seq := by
  rcases List.mem_append.1 hl with h1 | h1
  · exact List.mem_append_left _ h1
  · obtain ⟨g, hg, rfl⟩ := List.mem_map.1 h1
    obtain ⟨i, hi⟩ := List.mem_iff_getElem?.1 hg
    exact List.mem_append_right _ (List.mem_map.2 ⟨i, ord_all h (lt_of_get hi), by rw [gAt_of hi]⟩)
end Go.Proofs.Yteidpnpbfagaeaa
namespace Go.Proofs.Yteidpnpbfagaeaa
open Go Go.Lt Go.RowKit
set_option linter.unusedVariables false
set_option linter.unusedSimpArgs false
set_option maxRecDepth 20000

/-- Two results: rows of one's own. -/
def IsFresh2 {α β : Type} (s : Nat) (enc : α → List Value) (el : TypeId) (t : Nat) (encb : β → List Value) (elb : TypeId) (w : World) (L : List α) (M : List β) (v : Value) (w' : World) : Prop :=
  Ext w w' ∧ ∃ a cap b cb, v = .tuple #[.slice a L.length cap, .slice b M.length cb] ∧ Own s enc el w.heap.size w' a cap L ∧ Own t encb elb w.heap.size w' b cb M

end Go.Proofs.Yteidpnpbfagaeaa
namespace Go.Proofs.Yteidpnpbfagaeaa
open Go Go.Lt Go.RowKit
set_option linter.unusedVariables false
set_option linter.unusedSimpArgs false
set_option maxRecDepth 20000

theorem ref11_lit (a : Option Addr) (cap : Nat) (A : List Int) (l z : Int) (w : World) (R : Row 1 encI w a A) (h0 : 0 ≤ l) (hl : l ≤ 4294967296) (hz : A[(l / 2).toNat]? = some z) (hz0 : 0 ≤ z ∧ z ≤ 4294967296) :
    Still Try.prog 117 [.slice a A.length cap, .int .i64 l] w (.int .i64 (litI A l)) := by
  have hlt := lt_of_get hz
  have e0 : litI A l = xorI z (l % 2) := by unfold litI; rw [getD_of hz]
  by_cases h : l % 2 = 1
  · refine Spec.of _ Try.func117 rfl Try.ntmps117 (by kernel_rfl) rfl ?_
    repeat' (first
      | (apply W.condKT; exact rfl; (focus (exact dec_true h; done)))
      | (show WL _ _ _ _ _ _ _; first | apply WL.nil | (refine WL.au (k := ?_)))
      | (show QL _ _ _ _ _ _ _; first | apply QL.nil | (refine QL.au (k := ?_)) | (apply QL.index tOk; (iterate 8 exact rfl); assumption; (exact extA); exact rfl; omega; assumption; intro b off h; have hcc := h; first | (obtain ⟨h1, h2, h3, h4, h5, h6, _⟩ := h) | (obtain ⟨h1, h2, h3, _⟩ := h) | (obtain ⟨h1, h2, _⟩ := h) | (obtain ⟨h1, _⟩ := h)))
      | (show Z _ _ _ _ _; first | apply Z.then_normal | apply Z.then_ret)
      | (show W _ _ _ _ _ _; first | apply W.seq | apply W.region | apply W.ret | (apply W.regionD tMix; kernel_rfl))
      | fail)
    exact Z.body1 Try.results117 rfl fun m => ⟨by rw [e0, h]; congr 1; unfold xorI Lt.xor1; split <;> (try split) <;> omega, m, rfl⟩
  · refine Spec.of _ Try.func117 rfl Try.ntmps117 (by kernel_rfl) rfl ?_
    repeat' (first
      | (apply W.condKF; exact rfl; (focus (exact dec_false h; done)))
      | (show WL _ _ _ _ _ _ _; first | apply WL.nil | (refine WL.au (k := ?_)) | (apply WL.index tOk; (iterate 8 exact rfl); assumption; (exact extA); exact rfl; omega; assumption; intro b off h; have hcc := h; first | (obtain ⟨h1, h2, h3, h4, h5, h6, _⟩ := h) | (obtain ⟨h1, h2, h3, _⟩ := h) | (obtain ⟨h1, h2, _⟩ := h) | (obtain ⟨h1, _⟩ := h)))
      | (show Z _ _ _ _ _; apply Z.then_normal)
      | (show W _ _ _ _ _ _; first | apply W.seq | apply W.region | apply W.skip | apply W.ret)
      | fail)
    exact Z.body1 Try.results117 rfl fun m => ⟨by rw [e0]; congr 1; unfold xorI Lt.xor1; split <;> (try split) <;> omega, m, rfl⟩

theorem cIn_len (s : NA) (ls : List Int) : (cIn s ls).1.length = s.1.length + ls.length ∧ (cIn s ls).2.length = s.2.length := by
  induction ls generalizing s with
  | nil => exact ⟨rfl, rfl⟩
  | cons l ls ih =>
    have := ih (cput s l (-1, 0))
    refine ⟨?_, ?_⟩
    · show (cIn (cput s l (-1, 0)) ls).1.length = _
      rw [this.1]; simp [cput]; omega
    · show (cIn (cput s l (-1, 0)) ls).2.length = _
      rw [this.2]; simp [cput]
theorem cIn_take (s : NA) {ls : List Int} {k : Nat} {x : Int} (h : ls[k]? = some x) : cIn s (ls.take (k + 1)) = cput (cIn s (ls.take k)) x (-1, 0) := by rw [take_succ' h, cIn_snoc]
theorem at_snoc (k : Nat) : (0 :: List.replicate k (-1 : Int)) ++ [-1] = 0 :: List.replicate (k + 1) (-1) := by rw [List.replicate_succ', List.cons_append]

noncomputable def cS1 (c : CirT) (k : Nat) : NA := cIn ([], cAt0 c.max) (c.ins.take k)
noncomputable def cS2 (c : CirT) (k : Nat) : NA := cIn (cS1 c c.ins.length) ((c.lat.map (·.1)).take k)
noncomputable def cS3 (c : CirT) (k : Nat) : NA := cGates c.gates (cS2 c c.lat.length) ((ordL c.gates).take k)
theorem cS1_0 (c : CirT) : cS1 c 0 = ([], cAt0 c.max) := by unfold cS1; rw [List.take_zero]; rfl
theorem cS1_s {c : CirT} {k : Nat} {x : Int} (h : c.ins[k]? = some x) : cS1 c (k + 1) = cput (cS1 c k) x (-1, 0) := cIn_take _ h
theorem cS1_len (c : CirT) {k : Nat} (h : k ≤ c.ins.length) : (cS1 c k).1.length = k ∧ (cS1 c k).2.length = c.max.toNat + 1 := by
  have := cIn_len ([], cAt0 c.max) (c.ins.take k)
  refine ⟨by unfold cS1; rw [this.1, List.length_take]; simp; omega, by unfold cS1; rw [this.2]; simp [cAt0]⟩
theorem cS2_0 (c : CirT) : cS2 c 0 = cS1 c c.ins.length := by unfold cS2; rw [List.take_zero]; rfl
theorem cS2_s {c : CirT} {k : Nat} {x : T3} (h : c.lat[k]? = some x) : cS2 c (k + 1) = cput (cS2 c k) x.1 (-1, 0) := cIn_take _ (by rw [List.getElem?_map, h]; rfl)
theorem cS2_len (c : CirT) {k : Nat} (h : k ≤ c.lat.length) : (cS2 c k).1.length = c.ins.length + k ∧ (cS2 c k).2.length = c.max.toNat + 1 := by
  have := cIn_len (cS1 c c.ins.length) ((c.lat.map (·.1)).take k)
  have h1 := cS1_len c (Nat.le_refl c.ins.length)
  refine ⟨by unfold cS2; rw [this.1, h1.1, List.length_take, List.length_map]; omega, by unfold cS2; rw [this.2, h1.2]⟩
theorem cS2_all (c : CirT) : cS2 c c.lat.length = cIn ([], cAt0 c.max) c.inl := by
  unfold cS2 cS1
  rw [List.take_length, show c.lat.length = (c.lat.map (·.1)).length from (List.length_map _).symm, List.take_length]
  unfold cIn; rw [← List.foldl_append]
theorem cS3_0 (c : CirT) : cS3 c 0 = cS2 c c.lat.length := by unfold cS3; rw [List.take_zero]; rfl
theorem cS3_s {c : CirT} {k i : Nat} (h : (ordL c.gates)[k]? = some i) : cS3 c (k + 1) = cGate c.gates (cS3 c k) i := by unfold cS3; rw [take_succ' h, cGates_snoc]
theorem cS3_len (c : CirT) {k : Nat} (h : k ≤ (ordL c.gates).length) : (cS3 c k).1.length = c.ins.length + c.lat.length + k ∧ (cS3 c k).2.length = c.max.toNat + 1 := by
  induction k with
  | zero => rw [cS3_0]; exact cS2_len c (Nat.le_refl _)
  | succ k ih =>
    obtain ⟨i, hi⟩ := getI (ordL c.gates) (show k < _ by omega)
    have := ih (by omega)
    rw [cS3_s hi]
    refine ⟨?_, ?_⟩
    · show (_ ++ [_]).length = _
      rw [List.length_append, this.1, List.length_singleton]; omega
    · show (List.set _ _ _).length = _
      rw [List.length_set, this.2]
theorem cS3_all (c : CirT) : cS3 c (ordL c.gates).length = cNet c := by unfold cS3 cNet; rw [List.take_length, cS2_all]
/-- What a gate's two are, when it is put. -/
theorem cS3_get {c : CirT} (h : GoodC' c) {k i : Nat} (hi : (ordL c.gates)[k]? = some i) : ∃ g za zb, c.gates[i]? = some g ∧ (cS3 c k).2[(g.2.1 / 2).toNat]? = some za ∧ (cS3 c k).2[(g.2.2 / 2).toNat]? = some zb ∧ (0 ≤ za ∧ za ≤ 2 * ((cS3 c k).1.length : Int)) ∧ (0 ≤ zb ∧ zb ≤ 2 * ((cS3 c k).1.length : Int)) := by
  have hO := (ordL_is c.gates).1
  obtain ⟨g, hg, hn, hr⟩ := (hO k i hi).1
  have h1 := (net_to h k (Nat.le_of_lt (lt_of_get hi))).1
  have e : cGates c.gates (cIn ([], cAt0 c.max) c.inl) ((ordL c.gates).take k) = cS3 c k := by unfold cS3; rw [cS2_all]
  rw [e] at h1
  have hm' := List.mem_of_getElem? hg
  have ua : g.2.1 ∈ c.used := List.mem_append_right _ (List.mem_flatMap.2 ⟨g, hm', by simp⟩)
  have ub : g.2.2 ∈ c.used := List.mem_append_right _ (List.mem_flatMap.2 ⟨g, hm', by simp⟩)
  obtain ⟨za, a1, a2, _, a3⟩ := h1.ge (used_put h ua fun j x hx hj => (hr j x hx hj).1)
  obtain ⟨zb, b1, b2, _, b3⟩ := h1.ge (used_put h ub fun j x hx hj => (hr j x hx hj).2)
  exact ⟨g, za, zb, hg, a1, b1, ⟨a2, a3⟩, ⟨b2, b3⟩⟩

set_option maxHeartbeats 32000000 in
theorem ref11_Net (c : Circ) (w : World) (hC : CAt w c) (hg : GoodC' c.t) (hz : SzC c.t 100000) :
    Lt.Spec Try.prog 63 [c.val] w (IsFresh2 2 encN 105 1 encI 3 w (cNet c.t).1 (cNet c.t).2) := by
  have z1 : c.ins.2.2.length ≤ 100000 := hz.1
  have z2 : c.lat.2.2.length ≤ 100000 := hz.2.1
  have z6 : c.gates.2.2.length ≤ 100000 := hz.2.2.2.2.2
  have hm : 0 ≤ c.max ∧ c.max ≤ 16777216 := hg.max
  have hown : ∀ x ∈ c.t.own, 2 ≤ x ∧ x % 2 = 0 ∧ x ≤ 2 * c.max := hg.own
  have hused : ∀ x ∈ c.t.used, 0 ≤ x ∧ x ≤ 2 * c.max + 1 := hg.used
  refine Spec.of _ Try.func63 rfl Try.ntmps63 (by kernel_rfl) rfl ?_
  repeat' (first
    | (apply WL.box; (iterate 3 exact rfl); intro gb w' hb hge hc hx; have hcc := hc; (first | (obtain ⟨h1, h2, h3, _⟩ := hc) | (obtain ⟨h1, h2, _⟩ := hc)); (have hcells := hcc; obtain ⟨y0, y1, y2, y3, y4, y5, y6, _⟩ := hcc; obtain ⟨gc, rfl⟩ : ∃ x, x = gb := ⟨_, rfl⟩; obtain ⟨wc, rfl⟩ : ∃ x, x = w' := ⟨_, rfl⟩; obtain ⟨hxc, rfl⟩ : ∃ x, x = hx := ⟨_, rfl⟩))
    | (apply WL.lit (len := 0) tOk; (iterate 6 exact rfl); (first | exact rfl | kernel_rfl | (simp [Instr.fill, catCells]; done)); exact rfl; intro gb w' hb hge hc hx; have hO0 := Own.of_block0 (enc := encN) (s := 2) hb hge; (have hS1 : Lt.Sep wc.heap.size w' [prow 2 encN 105 wc.heap.size (some ⟨gb, 0, none⟩) 0 []] := Sep.none'.newRow' hx hO0 (Nat.le_refl _); obtain ⟨g0, rfl⟩ : ∃ x, x = gb := ⟨_, rfl⟩; obtain ⟨w0, rfl⟩ : ∃ x, x = w' := ⟨_, rfl⟩; obtain ⟨hx0, rfl⟩ : ∃ x, x = hx := ⟨_, rfl⟩))
    | (apply WL.lit tOk; (iterate 6 exact rfl); (first | exact rfl | kernel_rfl | (simp [Instr.fill, catCells]; done)); exact rfl; intro gb w' hb hge hc hx; have hO := Own.of_block ([(0 : Int)]) encI_ok hb hge rfl; (have hS2 := hS1.newRow' (s := 1) (enc := encI) (el := 3) (cap := 1) (l := [0]) hx hO (Below.size hx0); obtain ⟨g1, rfl⟩ : ∃ x, x = gb := ⟨_, rfl⟩; obtain ⟨w1, rfl⟩ : ∃ x, x = w' := ⟨_, rfl⟩; obtain ⟨hx1, rfl⟩ : ∃ x, x = hx := ⟨_, rfl⟩))
    | (show WL _ _ _ _ _ _ _; first | apply WL.nil | (refine WL.au (k := ?_)))
    | (show Z _ _ _ _ _; apply Z.then_normal)
    | (show W _ _ _ _ _ _; first | apply W.seq | apply W.region | apply W.block)
    | fail)
  have hX1 : Ext w w1 := (by (exact extA))
  have Ri := hC.ins.row.ext hxc
  have Rl := hC.lat.row.ext hxc
  have Rg := hC.gates.row.ext hxc
  refine W.loopO c.max.toNat (fun k d dp w' => k ≤ c.max.toNat ∧ Ext wc w' ∧ Lt.Sep wc.heap.size w' [prow 1 encI 3 wc.heap.size d dp (0 :: List.replicate k (-1 : Int)), prow 2 encN 105 wc.heap.size (some ⟨g0, 0, none⟩) 0 []]) (fun k d dp => [(1, .pointer (some ⟨gc, 0, none⟩)), (4, .slice (some ⟨g0, 0, none⟩) 0 0), (5, .slice d (0 :: List.replicate k (-1 : Int)).length dp), (6, .int .i64 ((k : Int) + 1))]) (some ⟨g1, 0, none⟩) 1 ⟨Nat.zero_le _, (by (exact extA)), hS2⟩ (fun k d dp w' h => h.1) ⟨rfl, rfl, rfl, rfl, trivial⟩ ?_
  rintro k d dp w2 ⟨hk, hX2, hS⟩
  have hlk : (0 :: List.replicate k (-1 : Int)).length = k + 1 := by simp
  have hR0 := hS.row (i := 0) rfl
  have hR1 := hS.row (i := 1) rfl
  by_cases hlt : k < c.max.toNat
  · repeat' (first
      | (apply W.condKT; exact rfl; (focus (exact dec_true (by omega); done)))
      | (apply WL.lit tOk; (iterate 6 exact rfl); (first | exact rfl | kernel_rfl | (simp [Instr.fill, catCells]; done)); exact rfl; intro gb w' hb hge hc hx)
      | (apply WL.append1 (z := ((-1 : Int))) tOk encI_ok; (iterate 10 exact rfl); assumption; (exact extA); (first | exact rfl | (focus (simp only [List.length_set]; done)) | (focus (simp; done)) | (focus (simp [*]; done)) | omega | (focus (simp only [List.length_set]; omega))); (first | assumption | (refine Cells.ext ?_ (by assumption); exact extA)); exact rfl; exact rfl; (exact extA); (first | omega | (simp; omega) | (simp at *; omega)); intro a' cap' w' hO hX' hU hF; (first | replace hS := Sep.updRow (i := 0) rfl hU hO hF hS (by (exact extA)) (by (first | exact Nat.le_refl _ | exact Below.size (by (exact extA)))) | replace hS := Sep.updRow (i := 1) rfl hU hO hF hS (by (exact extA)) (by (first | exact Nat.le_refl _ | exact Below.size (by (exact extA)))) | replace hS := Sep.updRow (i := 2) rfl hU hO hF hS (by (exact extA)) (by (first | exact Nat.le_refl _ | exact Below.size (by (exact extA)))) | replace hS := Sep.updRow (i := 3) rfl hU hO hF hS (by (exact extA)) (by (first | exact Nat.le_refl _ | exact Below.size (by (exact extA)))) | replace hS := Sep.updRow (i := 4) rfl hU hO hF hS (by (exact extA)) (by (first | exact Nat.le_refl _ | exact Below.size (by (exact extA)))) | replace hS := Sep.updRow (i := 5) rfl hU hO hF hS (by (exact extA)) (by (first | exact Nat.le_refl _ | exact Below.size (by (exact extA))))); (try simp only [List.set_cons_zero, List.set_cons_succ] at hS); (try have hR0 := hS.row (i := 0) rfl); (try have hR1 := hS.row (i := 1) rfl); (try have hR2 := hS.row (i := 2) rfl); (try have hR3 := hS.row (i := 3) rfl); (try have hR4 := hS.row (i := 4) rfl); (try have hC0 := hS.cell (i := 0) rfl); (try have hD0 := (cells_heap hC0).1); (try have hE0 := (cells_heap hC0).2.1); (try have hF0 := (cells_heap hC0).2.2.1); (try have hG0 := (cells_heap hC0).2.2.2.1); (try have hC1 := hS.cell (i := 1) rfl); (try have hD1 := (cells_heap hC1).1); (try have hE1 := (cells_heap hC1).2.1); (try have hF1 := (cells_heap hC1).2.2.1); (try have hG1 := (cells_heap hC1).2.2.2.1); (try have hC2 := hS.cell (i := 2) rfl); (try have hD2 := (cells_heap hC2).1); (try have hE2 := (cells_heap hC2).2.1); (try have hF2 := (cells_heap hC2).2.2.1); (try have hG2 := (cells_heap hC2).2.2.2.1); (try have hC3 := hS.cell (i := 3) rfl); (try have hD3 := (cells_heap hC3).1); (try have hE3 := (cells_heap hC3).2.1); (try have hF3 := (cells_heap hC3).2.2.1); (try have hG3 := (cells_heap hC3).2.2.2.1); (try have hC4 := hS.cell (i := 4) rfl); (try have hD4 := (cells_heap hC4).1); (try have hE4 := (cells_heap hC4).2.1); (try have hF4 := (cells_heap hC4).2.2.1); (try have hG4 := (cells_heap hC4).2.2.2.1); (try have hM0 := hS.map (i := 0) rfl); (try have hM1 := hS.map (i := 1) rfl); (try have hM2 := hS.map (i := 2) rfl); (try have hM3 := hS.map (i := 3) rfl); (try have hM4 := hS.map (i := 4) rfl))
      | (show WL _ _ _ _ _ _ _; first | apply WL.nil | (refine WL.au (k := ?_)))
      | (show Z _ _ _ _ _; first | apply Z.then_normal | apply Z.block_normal)
      | (show W _ _ _ _ _ _; first | apply W.seq | apply W.region | apply W.block | apply W.skip)
      | fail)
    exact Z.againO a' cap' ⟨by omega, (by (exact extA)), by rw [← at_snoc]; exact hS⟩ ⟨rfl, rfl, by rw [← at_snoc]; exact rfl, rfl, trivial⟩
  obtain rfl : k = c.max.toNat := by omega
  repeat' (first
    | (apply W.condKF; exact rfl; (focus (exact dec_false (by omega); done)))
    | (show WL _ _ _ _ _ _ _; first | apply WL.nil | (refine WL.au (k := ?_)))
    | (show Z _ _ _ _ _; first | apply Z.then_normal | apply Z.then_exit | apply Z.block_exit)
    | (show W _ _ _ _ _ _; first | apply W.seq | apply W.region | apply W.block | apply W.exit)
    | fail)
  have hown1 : ∀ x ∈ c.ins.2.2, 2 ≤ x ∧ x % 2 = 0 ∧ x ≤ 2 * c.max := fun x hx => hown x (List.mem_append_left _ (List.mem_append_left _ hx))
  have hown2 : ∀ x ∈ c.lat.2.2, 2 ≤ x.1 ∧ x.1 % 2 = 0 ∧ x.1 ≤ 2 * c.max := fun x hx => hown x.1 (List.mem_append_left _ (List.mem_append_right _ (List.mem_map.2 ⟨x, hx, rfl⟩)))
  have e10 := cS1_0 c.t
  refine W.loopO2 c.ins.2.2.length (fun k a cp d dp w' => k ≤ c.ins.2.2.length ∧ Ext wc w' ∧ Lt.Sep wc.heap.size w' [prow 1 encI 3 wc.heap.size d dp (cS1 c.t k).2, prow 2 encN 105 wc.heap.size a cp (cS1 c.t k).1]) (fun k a cp d dp => [(1, .pointer (some ⟨gc, 0, none⟩)), (4, .slice a (cS1 c.t k).1.length cp), (5, .slice d (cS1 c.t k).2.length dp), (7, .int .i64 k)]) (some ⟨g0, 0, none⟩) 0 d dp ⟨Nat.zero_le _, hX2, by rw [e10]; exact hS⟩ (fun k a cp d dp w' h => h.1) (by rw [e10]; exact ⟨rfl, rfl, rfl, rfl, trivial⟩) ?_
  clear hS hR0 hR1 hX2
  rintro k a cp d dp w2 ⟨hk, hX2, hS⟩
  have hR0 := hS.row (i := 0) rfl
  have hR1 := hS.row (i := 1) rfl
  have hl1 : (cS1 c.t k).1.length = k ∧ (cS1 c.t k).2.length = c.max.toNat + 1 := cS1_len c.t hk
  by_cases hlt : k < c.ins.2.2.length
  · obtain ⟨x, hgx⟩ := getI c.ins.2.2 hlt
    have hxo := hown1 x (List.mem_of_getElem? hgx)
    have e1 := cS1_s (c := c.t) hgx
    obtain ⟨yv, hgy⟩ := getI (cS1 c.t k).2 (show (x / 2).toNat < _ by omega)
    repeat' (first
      | (apply W.condKT; exact rfl; (focus (exact dec_true (by omega); done)))
      | (apply WL.build tOk; (iterate 7 exact rfl); kernel_rfl)
      | (apply WL.lit tOk; (iterate 6 exact rfl); (first | exact rfl | kernel_rfl | (simp [Instr.fill, catCells]; done)); exact rfl; intro gb w' hb hge hc hx)
      | (apply WL.append1 (z := (((-1 : Int), (0 : Int)))) tOk encN_ok; (iterate 10 exact rfl); assumption; (exact extA); (first | exact rfl | (focus (simp only [List.length_set]; done)) | (focus (simp; done)) | (focus (simp [*]; done)) | omega | (focus (simp only [List.length_set]; omega))); (first | assumption | (refine Cells.ext ?_ (by assumption); exact extA)); exact rfl; exact rfl; (exact extA); (first | omega | (simp; omega) | (simp at *; omega)); intro a' cap' w' hO hX' hU hF; (first | replace hS := Sep.updRow (i := 0) rfl hU hO hF hS (by (exact extA)) (by (first | exact Nat.le_refl _ | exact Below.size (by (exact extA)))) | replace hS := Sep.updRow (i := 1) rfl hU hO hF hS (by (exact extA)) (by (first | exact Nat.le_refl _ | exact Below.size (by (exact extA)))) | replace hS := Sep.updRow (i := 2) rfl hU hO hF hS (by (exact extA)) (by (first | exact Nat.le_refl _ | exact Below.size (by (exact extA)))) | replace hS := Sep.updRow (i := 3) rfl hU hO hF hS (by (exact extA)) (by (first | exact Nat.le_refl _ | exact Below.size (by (exact extA)))) | replace hS := Sep.updRow (i := 4) rfl hU hO hF hS (by (exact extA)) (by (first | exact Nat.le_refl _ | exact Below.size (by (exact extA)))) | replace hS := Sep.updRow (i := 5) rfl hU hO hF hS (by (exact extA)) (by (first | exact Nat.le_refl _ | exact Below.size (by (exact extA))))); (try simp only [List.set_cons_zero, List.set_cons_succ] at hS); (try have hR0 := hS.row (i := 0) rfl); (try have hR1 := hS.row (i := 1) rfl); (try have hR2 := hS.row (i := 2) rfl); (try have hR3 := hS.row (i := 3) rfl); (try have hR4 := hS.row (i := 4) rfl); (try have hC0 := hS.cell (i := 0) rfl); (try have hD0 := (cells_heap hC0).1); (try have hE0 := (cells_heap hC0).2.1); (try have hF0 := (cells_heap hC0).2.2.1); (try have hG0 := (cells_heap hC0).2.2.2.1); (try have hC1 := hS.cell (i := 1) rfl); (try have hD1 := (cells_heap hC1).1); (try have hE1 := (cells_heap hC1).2.1); (try have hF1 := (cells_heap hC1).2.2.1); (try have hG1 := (cells_heap hC1).2.2.2.1); (try have hC2 := hS.cell (i := 2) rfl); (try have hD2 := (cells_heap hC2).1); (try have hE2 := (cells_heap hC2).2.1); (try have hF2 := (cells_heap hC2).2.2.1); (try have hG2 := (cells_heap hC2).2.2.2.1); (try have hC3 := hS.cell (i := 3) rfl); (try have hD3 := (cells_heap hC3).1); (try have hE3 := (cells_heap hC3).2.1); (try have hF3 := (cells_heap hC3).2.2.1); (try have hG3 := (cells_heap hC3).2.2.2.1); (try have hC4 := hS.cell (i := 4) rfl); (try have hD4 := (cells_heap hC4).1); (try have hE4 := (cells_heap hC4).2.1); (try have hF4 := (cells_heap hC4).2.2.1); (try have hG4 := (cells_heap hC4).2.2.2.1); (try have hM0 := hS.map (i := 0) rfl); (try have hM1 := hS.map (i := 1) rfl); (try have hM2 := hS.map (i := 2) rfl); (try have hM3 := hS.map (i := 3) rfl); (try have hM4 := hS.map (i := 4) rfl))
      | (show WL _ _ _ _ _ _ _; first | apply WL.nil | (refine WL.au (k := ?_)) | (apply WL.index tOk; (iterate 8 exact rfl); assumption; (exact extA); exact rfl; omega; assumption; intro b off h; have hcc := h; first | (obtain ⟨h1, h2, h3, h4, h5, h6, _⟩ := h) | (obtain ⟨h1, h2, h3, _⟩ := h) | (obtain ⟨h1, h2, _⟩ := h) | (obtain ⟨h1, _⟩ := h)))
      | (show Z _ _ _ _ _; apply Z.then_normal)
      | (show W _ _ _ _ _ _; first | apply W.seq | apply W.region | apply W.block | apply W.skip)
      | fail)
    have le3 : ((cS1 c.t k).1 ++ [((-1 : Int), (0 : Int))]).length = k + 1 := by rw [List.length_append, hl1.1]; rfl
    have le5 : 2 * (((cS1 c.t k).1 ++ [((-1 : Int), (0 : Int))]).length : Int) = 2 * (((cS1 c.t k).1.length : Int) + 1) := by rw [le3, hl1.1]; rfl
    obtain ⟨a2, rfl⟩ : ∃ x, x = a' := ⟨_, rfl⟩; obtain ⟨cp2, rfl⟩ : ∃ x, x = cap' := ⟨_, rfl⟩
    repeat' (first
      | (apply WL.storeO (z' := (2 * (((cS1 c.t k).1 ++ [((-1 : Int), (0 : Int))]).length : Int))) tOk; (iterate 4 exact rfl); assumption; (exact extA); (iterate 3 exact rfl); exact encI_ok; assumption; exact rfl; (exact extA); intro w' hO hX' hU; (first | replace hS := Sep.updRow (i := 0) rfl hU hO (.inl rfl) hS (by (exact extA)) (by (first | exact Nat.le_refl _ | exact Below.size (by (exact extA)))) | replace hS := Sep.updRow (i := 1) rfl hU hO (.inl rfl) hS (by (exact extA)) (by (first | exact Nat.le_refl _ | exact Below.size (by (exact extA)))) | replace hS := Sep.updRow (i := 2) rfl hU hO (.inl rfl) hS (by (exact extA)) (by (first | exact Nat.le_refl _ | exact Below.size (by (exact extA)))) | replace hS := Sep.updRow (i := 3) rfl hU hO (.inl rfl) hS (by (exact extA)) (by (first | exact Nat.le_refl _ | exact Below.size (by (exact extA)))) | replace hS := Sep.updRow (i := 4) rfl hU hO (.inl rfl) hS (by (exact extA)) (by (first | exact Nat.le_refl _ | exact Below.size (by (exact extA)))) | replace hS := Sep.updRow (i := 5) rfl hU hO (.inl rfl) hS (by (exact extA)) (by (first | exact Nat.le_refl _ | exact Below.size (by (exact extA))))); (try simp only [List.set_cons_zero, List.set_cons_succ] at hS); (try have hR0 := hS.row (i := 0) rfl); (try have hR1 := hS.row (i := 1) rfl); (try have hR2 := hS.row (i := 2) rfl); (try have hR3 := hS.row (i := 3) rfl); (try have hR4 := hS.row (i := 4) rfl); (try have hC0 := hS.cell (i := 0) rfl); (try have hD0 := (cells_heap hC0).1); (try have hE0 := (cells_heap hC0).2.1); (try have hF0 := (cells_heap hC0).2.2.1); (try have hG0 := (cells_heap hC0).2.2.2.1); (try have hC1 := hS.cell (i := 1) rfl); (try have hD1 := (cells_heap hC1).1); (try have hE1 := (cells_heap hC1).2.1); (try have hF1 := (cells_heap hC1).2.2.1); (try have hG1 := (cells_heap hC1).2.2.2.1); (try have hC2 := hS.cell (i := 2) rfl); (try have hD2 := (cells_heap hC2).1); (try have hE2 := (cells_heap hC2).2.1); (try have hF2 := (cells_heap hC2).2.2.1); (try have hG2 := (cells_heap hC2).2.2.2.1); (try have hC3 := hS.cell (i := 3) rfl); (try have hD3 := (cells_heap hC3).1); (try have hE3 := (cells_heap hC3).2.1); (try have hF3 := (cells_heap hC3).2.2.1); (try have hG3 := (cells_heap hC3).2.2.2.1); (try have hC4 := hS.cell (i := 4) rfl); (try have hD4 := (cells_heap hC4).1); (try have hE4 := (cells_heap hC4).2.1); (try have hF4 := (cells_heap hC4).2.2.1); (try have hG4 := (cells_heap hC4).2.2.2.1); (try have hM0 := hS.map (i := 0) rfl); (try have hM1 := hS.map (i := 1) rfl); (try have hM2 := hS.map (i := 2) rfl); (try have hM3 := hS.map (i := 3) rfl); (try have hM4 := hS.map (i := 4) rfl))
      | (apply WL.indexO tOk; (iterate 8 exact rfl); assumption; (exact extA); exact encI_ok; (first | exact rfl | (focus (simp only [List.length_set]; done)) | (focus (simp; done)) | (focus (simp [*]; done)) | omega | (focus (simp only [List.length_set]; omega))); omega; assumption; intro gb ha hc; cases ha; have hcc := hc; first | (obtain ⟨h1, h2, h3, _⟩ := hc) | (obtain ⟨h1, h2, _⟩ := hc) | (obtain ⟨h1, _⟩ := hc))
      | (show WL _ _ _ _ _ _ _; first | apply WL.nil | (refine WL.au (k := ?_)))
      | (show Z _ _ _ _ _; first | apply Z.then_normal | apply Z.block_normal)
      | (show W _ _ _ _ _ _; apply W.region)
      | fail)
    rw [le5] at hS
    exact Z.againO2 a2 cp2 (some ⟨gb, 0, none⟩) dp ⟨by omega, (by (exact extA)), by rw [e1]; exact hS⟩ (by repeat' first | exact trivial | (refine And.intro ?_ ?_) | exact rfl | (rw [e1]; exact rfl) | (rw [e1]; show _ = some (Value.slice _ (List.set _ _ _).length _); rw [List.length_set]; exact rfl))
  obtain rfl : k = c.ins.2.2.length := by omega
  repeat' (first
    | (apply W.condKF; exact rfl; (focus (exact dec_false (by omega); done)))
    | (show WL _ _ _ _ _ _ _; first | apply WL.nil | (refine WL.au (k := ?_)))
    | (show Z _ _ _ _ _; first | apply Z.then_normal | apply Z.then_exit | apply Z.block_exit)
    | (show W _ _ _ _ _ _; first | apply W.seq | apply W.region | apply W.block | apply W.exit)
    | fail)
  have e20 := cS2_0 c.t
  have e20 : cS2 c.t 0 = cS1 c.t c.ins.2.2.length := e20
  refine W.loopO2 c.lat.2.2.length (fun k a cp d dp w' => k ≤ c.lat.2.2.length ∧ Ext wc w' ∧ Lt.Sep wc.heap.size w' [prow 1 encI 3 wc.heap.size d dp (cS2 c.t k).2, prow 2 encN 105 wc.heap.size a cp (cS2 c.t k).1]) (fun k a cp d dp => [(1, .pointer (some ⟨gc, 0, none⟩)), (4, .slice a (cS2 c.t k).1.length cp), (5, .slice d (cS2 c.t k).2.length dp), (8, .int .i64 k)]) a cp d dp ⟨Nat.zero_le _, hX2, by rw [e20]; exact hS⟩ (fun k a cp d dp w' h => h.1) (by rw [e20]; exact ⟨rfl, rfl, rfl, rfl, trivial⟩) ?_
  clear hS hR0 hR1 hX2 hl1 hk
  rintro k a cp d dp w2 ⟨hk, hX2, hS⟩
  have hR0 := hS.row (i := 0) rfl
  have hR1 := hS.row (i := 1) rfl
  have hl1 : (cS2 c.t k).1.length = c.ins.2.2.length + k ∧ (cS2 c.t k).2.length = c.max.toNat + 1 := cS2_len c.t hk
  by_cases hlt : k < c.lat.2.2.length
  · obtain ⟨x, hgx⟩ := getI c.lat.2.2 hlt
    have hxo := hown2 x (List.mem_of_getElem? hgx)
    have e1 := cS2_s (c := c.t) hgx
    obtain ⟨yv, hgy⟩ := getI (cS2 c.t k).2 (show (x.1 / 2).toNat < _ by omega)
    have le3 : ((cS2 c.t k).1 ++ [((-1 : Int), (0 : Int))]).length = c.ins.2.2.length + k + 1 := by rw [List.length_append, hl1.1]; rfl
    have le5 : 2 * (((cS2 c.t k).1 ++ [((-1 : Int), (0 : Int))]).length : Int) = 2 * (((cS2 c.t k).1.length : Int) + 1) := by rw [le3, hl1.1]; rfl
    repeat' (first
      | (apply W.condKT; exact rfl; (focus (exact dec_true (by omega); done)))
      | (apply WL.build tOk; (iterate 7 exact rfl); kernel_rfl)
      | (apply WL.lit tOk; (iterate 6 exact rfl); (first | exact rfl | kernel_rfl | (simp [Instr.fill, catCells]; done)); exact rfl; intro gb w' hb hge hc hx)
      | (apply WL.append1 (z := (((-1 : Int), (0 : Int)))) tOk encN_ok; (iterate 10 exact rfl); assumption; (exact extA); (first | exact rfl | (focus (simp only [List.length_set]; done)) | (focus (simp; done)) | (focus (simp [*]; done)) | omega | (focus (simp only [List.length_set]; omega))); (first | assumption | (refine Cells.ext ?_ (by assumption); exact extA)); exact rfl; exact rfl; (exact extA); (first | omega | (simp; omega) | (simp at *; omega)); intro a' cap' w' hO hX' hU hF; (first | replace hS := Sep.updRow (i := 0) rfl hU hO hF hS (by (exact extA)) (by (first | exact Nat.le_refl _ | exact Below.size (by (exact extA)))) | replace hS := Sep.updRow (i := 1) rfl hU hO hF hS (by (exact extA)) (by (first | exact Nat.le_refl _ | exact Below.size (by (exact extA)))) | replace hS := Sep.updRow (i := 2) rfl hU hO hF hS (by (exact extA)) (by (first | exact Nat.le_refl _ | exact Below.size (by (exact extA)))) | replace hS := Sep.updRow (i := 3) rfl hU hO hF hS (by (exact extA)) (by (first | exact Nat.le_refl _ | exact Below.size (by (exact extA)))) | replace hS := Sep.updRow (i := 4) rfl hU hO hF hS (by (exact extA)) (by (first | exact Nat.le_refl _ | exact Below.size (by (exact extA)))) | replace hS := Sep.updRow (i := 5) rfl hU hO hF hS (by (exact extA)) (by (first | exact Nat.le_refl _ | exact Below.size (by (exact extA))))); (try simp only [List.set_cons_zero, List.set_cons_succ] at hS); (try have hR0 := hS.row (i := 0) rfl); (try have hR1 := hS.row (i := 1) rfl); (try have hR2 := hS.row (i := 2) rfl); (try have hR3 := hS.row (i := 3) rfl); (try have hR4 := hS.row (i := 4) rfl); (try have hC0 := hS.cell (i := 0) rfl); (try have hD0 := (cells_heap hC0).1); (try have hE0 := (cells_heap hC0).2.1); (try have hF0 := (cells_heap hC0).2.2.1); (try have hG0 := (cells_heap hC0).2.2.2.1); (try have hC1 := hS.cell (i := 1) rfl); (try have hD1 := (cells_heap hC1).1); (try have hE1 := (cells_heap hC1).2.1); (try have hF1 := (cells_heap hC1).2.2.1); (try have hG1 := (cells_heap hC1).2.2.2.1); (try have hC2 := hS.cell (i := 2) rfl); (try have hD2 := (cells_heap hC2).1); (try have hE2 := (cells_heap hC2).2.1); (try have hF2 := (cells_heap hC2).2.2.1); (try have hG2 := (cells_heap hC2).2.2.2.1); (try have hC3 := hS.cell (i := 3) rfl); (try have hD3 := (cells_heap hC3).1); (try have hE3 := (cells_heap hC3).2.1); (try have hF3 := (cells_heap hC3).2.2.1); (try have hG3 := (cells_heap hC3).2.2.2.1); (try have hC4 := hS.cell (i := 4) rfl); (try have hD4 := (cells_heap hC4).1); (try have hE4 := (cells_heap hC4).2.1); (try have hF4 := (cells_heap hC4).2.2.1); (try have hG4 := (cells_heap hC4).2.2.2.1); (try have hM0 := hS.map (i := 0) rfl); (try have hM1 := hS.map (i := 1) rfl); (try have hM2 := hS.map (i := 2) rfl); (try have hM3 := hS.map (i := 3) rfl); (try have hM4 := hS.map (i := 4) rfl))
      | (show WL _ _ _ _ _ _ _; first | apply WL.nil | (refine WL.au (k := ?_)) | (apply WL.index tOk; (iterate 8 exact rfl); assumption; (exact extA); exact rfl; omega; assumption; intro b off h; have hcc := h; first | (obtain ⟨h1, h2, h3, h4, h5, h6, _⟩ := h) | (obtain ⟨h1, h2, h3, _⟩ := h) | (obtain ⟨h1, h2, _⟩ := h) | (obtain ⟨h1, _⟩ := h)))
      | (show Z _ _ _ _ _; apply Z.then_normal)
      | (show W _ _ _ _ _ _; first | apply W.seq | apply W.region | apply W.block | apply W.skip)
      | fail)
    obtain ⟨a2, rfl⟩ : ∃ x, x = a' := ⟨_, rfl⟩; obtain ⟨cp2, rfl⟩ : ∃ x, x = cap' := ⟨_, rfl⟩
    repeat' (first
      | (apply WL.storeO (z' := (2 * (((cS2 c.t k).1 ++ [((-1 : Int), (0 : Int))]).length : Int))) tOk; (iterate 4 exact rfl); assumption; (exact extA); (iterate 3 exact rfl); exact encI_ok; assumption; exact rfl; (exact extA); intro w' hO hX' hU; (first | replace hS := Sep.updRow (i := 0) rfl hU hO (.inl rfl) hS (by (exact extA)) (by (first | exact Nat.le_refl _ | exact Below.size (by (exact extA)))) | replace hS := Sep.updRow (i := 1) rfl hU hO (.inl rfl) hS (by (exact extA)) (by (first | exact Nat.le_refl _ | exact Below.size (by (exact extA)))) | replace hS := Sep.updRow (i := 2) rfl hU hO (.inl rfl) hS (by (exact extA)) (by (first | exact Nat.le_refl _ | exact Below.size (by (exact extA)))) | replace hS := Sep.updRow (i := 3) rfl hU hO (.inl rfl) hS (by (exact extA)) (by (first | exact Nat.le_refl _ | exact Below.size (by (exact extA)))) | replace hS := Sep.updRow (i := 4) rfl hU hO (.inl rfl) hS (by (exact extA)) (by (first | exact Nat.le_refl _ | exact Below.size (by (exact extA)))) | replace hS := Sep.updRow (i := 5) rfl hU hO (.inl rfl) hS (by (exact extA)) (by (first | exact Nat.le_refl _ | exact Below.size (by (exact extA))))); (try simp only [List.set_cons_zero, List.set_cons_succ] at hS); (try have hR0 := hS.row (i := 0) rfl); (try have hR1 := hS.row (i := 1) rfl); (try have hR2 := hS.row (i := 2) rfl); (try have hR3 := hS.row (i := 3) rfl); (try have hR4 := hS.row (i := 4) rfl); (try have hC0 := hS.cell (i := 0) rfl); (try have hD0 := (cells_heap hC0).1); (try have hE0 := (cells_heap hC0).2.1); (try have hF0 := (cells_heap hC0).2.2.1); (try have hG0 := (cells_heap hC0).2.2.2.1); (try have hC1 := hS.cell (i := 1) rfl); (try have hD1 := (cells_heap hC1).1); (try have hE1 := (cells_heap hC1).2.1); (try have hF1 := (cells_heap hC1).2.2.1); (try have hG1 := (cells_heap hC1).2.2.2.1); (try have hC2 := hS.cell (i := 2) rfl); (try have hD2 := (cells_heap hC2).1); (try have hE2 := (cells_heap hC2).2.1); (try have hF2 := (cells_heap hC2).2.2.1); (try have hG2 := (cells_heap hC2).2.2.2.1); (try have hC3 := hS.cell (i := 3) rfl); (try have hD3 := (cells_heap hC3).1); (try have hE3 := (cells_heap hC3).2.1); (try have hF3 := (cells_heap hC3).2.2.1); (try have hG3 := (cells_heap hC3).2.2.2.1); (try have hC4 := hS.cell (i := 4) rfl); (try have hD4 := (cells_heap hC4).1); (try have hE4 := (cells_heap hC4).2.1); (try have hF4 := (cells_heap hC4).2.2.1); (try have hG4 := (cells_heap hC4).2.2.2.1); (try have hM0 := hS.map (i := 0) rfl); (try have hM1 := hS.map (i := 1) rfl); (try have hM2 := hS.map (i := 2) rfl); (try have hM3 := hS.map (i := 3) rfl); (try have hM4 := hS.map (i := 4) rfl))
      | (apply WL.indexO tOk; (iterate 8 exact rfl); assumption; (exact extA); exact encI_ok; (first | exact rfl | (focus (simp only [List.length_set]; done)) | (focus (simp; done)) | (focus (simp [*]; done)) | omega | (focus (simp only [List.length_set]; omega))); omega; assumption; intro gb ha hc; cases ha; have hcc := hc; first | (obtain ⟨h1, h2, h3, _⟩ := hc) | (obtain ⟨h1, h2, _⟩ := hc) | (obtain ⟨h1, _⟩ := hc))
      | (show WL _ _ _ _ _ _ _; first | apply WL.nil | (refine WL.au (k := ?_)))
      | (show Z _ _ _ _ _; first | apply Z.then_normal | apply Z.block_normal)
      | (show W _ _ _ _ _ _; apply W.region)
      | fail)
    rw [le5] at hS
    exact Z.againO2 a2 cp2 (some ⟨gb, 0, none⟩) dp ⟨by omega, (by (exact extA)), by rw [e1]; exact hS⟩ (by repeat' first | exact trivial | (refine And.intro ?_ ?_) | exact rfl | (rw [e1]; exact rfl) | (rw [e1]; show _ = some (Value.slice _ (List.set _ _ _).length _); rw [List.length_set]; exact rfl))
  obtain rfl : k = c.lat.2.2.length := by omega
  have hgm : ∀ g ∈ c.gates.2.2, g.1 ∈ c.t.own ∧ g.2.1 ∈ c.t.used ∧ g.2.2 ∈ c.t.used := fun g hg =>
    ⟨List.mem_append.2 (.inr (List.mem_map.2 ⟨g, hg, rfl⟩)), List.mem_append.2 (.inr (List.mem_flatMap.2 ⟨g, hg, by simp⟩)), List.mem_append.2 (.inr (List.mem_flatMap.2 ⟨g, hg, by simp⟩))⟩
  have hok : gsOk c.gates.2.2 := fun g hg => by
    obtain ⟨r1, r2, r3⟩ := hgm g hg
    have := hown _ r1
    have := hused _ r2
    have := hused _ r3
    omega
  have hcells2 := hcells.ext hX2
  repeat' (first
    | (apply W.condKF; exact rfl; (focus (exact dec_false (by omega); done)))
    | ((show WL _ _ _ (⟨_, .call ⟨.value (.func 103), _, _⟩, _, _, _, _⟩ :: _) _ _ _); apply WL.call; (iterate 4 exact rfl); exact ref11_Order c _ (Rg.ext (by (exact extA))) hok (by omega); rintro v' w' ⟨hx, a', cap', rfl, hO⟩; (obtain ⟨hOd, rfl⟩ : ∃ x, x = hO := ⟨_, rfl⟩; obtain ⟨hxd, rfl⟩ : ∃ x, x = hx := ⟨_, rfl⟩; obtain ⟨wd, rfl⟩ : ∃ x, x = w' := ⟨_, rfl⟩; obtain ⟨ad, rfl⟩ : ∃ x, x = a' := ⟨_, rfl⟩; obtain ⟨cd, rfl⟩ : ∃ x, x = cap' := ⟨_, rfl⟩))
    | (show WL _ _ _ _ _ _ _; first | apply WL.nil | (refine WL.au (k := ?_)))
    | (show Z _ _ _ _ _; first | apply Z.then_normal | apply Z.then_exit | apply Z.block_exit)
    | (show W _ _ _ _ _ _; first | apply W.seq | apply W.region | apply W.block | apply W.exit)
    | fail)
  have hS := hS.newRow' hxd hOd (Below.size hX2)
  have hXd : Ext wc wd := (by (exact extA))
  have e30 : cS3 c.t 0 = cS2 c.t c.lat.2.2.length := cS3_0 c.t
  have hnl : (natI (ordL c.gates.2.2)).length = (ordL c.gates.2.2).length := by simp [natI]
  refine W.loopO2 (ordL c.gates.2.2).length (fun k a cp d dp w' => k ≤ (ordL c.gates.2.2).length ∧ Ext wc w' ∧ Lt.Sep wc.heap.size w' [prow 1 encI 3 wc.heap.size ad cd (natI (ordL c.gates.2.2)), prow 1 encI 3 wc.heap.size d dp (cS3 c.t k).2, prow 2 encN 105 wc.heap.size a cp (cS3 c.t k).1]) (fun k a cp d dp => [(1, .pointer (some ⟨gc, 0, none⟩)), (4, .slice a (cS3 c.t k).1.length cp), (5, .slice d (cS3 c.t k).2.length dp), (9, .slice ad (natI (ordL c.gates.2.2)).length cd), (10, .int .i64 k)]) a cp d dp ⟨Nat.zero_le _, hXd, by rw [e30]; exact hS⟩ (fun k a cp d dp w' h => h.1) (by rw [e30]; exact ⟨rfl, rfl, rfl, rfl, rfl, trivial⟩) ?_
  have hol : (ordL c.gates.2.2).length ≤ c.gates.2.2.length := (ordL_is c.gates.2.2).1.le
  clear hS hR0 hR1 hX2 hl1 hk hXd
  rintro k a cp d dp w2 ⟨hk, hX2, hS⟩
  have hR0 := hS.row (i := 0) rfl
  have hR1 := hS.row (i := 1) rfl
  have hR2 := hS.row (i := 2) rfl
  have RO := Own.row encI_ok hR0
  have hl1 : (cS3 c.t k).1.length = c.ins.2.2.length + c.lat.2.2.length + k ∧ (cS3 c.t k).2.length = c.max.toNat + 1 := cS3_len c.t hk
  by_cases hlt : k < (ordL c.gates.2.2).length
  · obtain ⟨i, hi⟩ := getI (ordL c.gates.2.2) hlt
    obtain ⟨g, za, zb, hgg, hza, hzb, ka, kb⟩ := cS3_get hg (c := c.t) hi
    have hgg : c.gates.2.2[i]? = some g := hgg
    have hgo := hok g (List.mem_of_getElem? hgg)
    have hgw := hown g.1 (hgm g (List.mem_of_getElem? hgg)).1
    have hgl := lt_of_get hgg
    have hni : (natI (ordL c.gates.2.2))[k]? = some (i : Int) := by rw [natI, List.getElem?_map, hi]; rfl
    obtain ⟨yv, hgy⟩ := getI (cS3 c.t k).2 (show (g.1 / 2).toNat < _ by omega)
    have e1 : cS3 c.t (k + 1) = cput (cS3 c.t k) g.1 (litI (cS3 c.t k).2 g.2.1, litI (cS3 c.t k).2 g.2.2) := by rw [cS3_s (c := c.t) hi]; unfold cGate; rw [gAt_of hgg]
    have le3 : ((cS3 c.t k).1 ++ [(litI (cS3 c.t k).2 g.2.1, litI (cS3 c.t k).2 g.2.2)]).length = c.ins.2.2.length + c.lat.2.2.length + k + 1 := by rw [List.length_append, hl1.1]; rfl
    have le5 : 2 * (((cS3 c.t k).1 ++ [(litI (cS3 c.t k).2 g.2.1, litI (cS3 c.t k).2 g.2.2)]).length : Int) = 2 * (((cS3 c.t k).1.length : Int) + 1) := by rw [le3, hl1.1]; rfl
    have y6w : w2.cell? ⟨gc, 0 + 1 + 1 + 1 + 1 + 1 + 1, none⟩ = some (rowVal c.gates) := (hcells.ext hX2).2.2.2.2.2.2.1
    have Rg2 := Rg.ext hX2
    repeat' (first
      | (apply W.condKT; exact rfl; (focus (exact dec_true (by omega); done)))
      | (show W _ _ (.region 20 _ _) _ _ _; apply W.regionGX (.fl true 0 (.fl true 2 (.fl true 3 (.fl true 4 (.fl false 1 (.fl false 5 (.fl true 6 (.fl false 7 (.br 8 (.br 9 .done .stop) .stop))))))))) [5, 7, 8] tMix; kernel_rfl)
      | (apply WL.alloc tOk; (iterate 3 exact rfl); intro gb w' hb hge hx; replace hS := Sep.newCell (Sep.ext hS (by (exact extA))) hx hb hge (by (first | exact Nat.le_refl _ | exact Below.size (by (exact extA)))); (try simp only [List.set_cons_zero, List.set_cons_succ] at hS); (try have hR0 := hS.row (i := 0) rfl); (try have hR1 := hS.row (i := 1) rfl); (try have hR2 := hS.row (i := 2) rfl); (try have hR3 := hS.row (i := 3) rfl); (try have hR4 := hS.row (i := 4) rfl); (try have hC0 := hS.cell (i := 0) rfl); (try have hD0 := (cells_heap hC0).1); (try have hE0 := (cells_heap hC0).2.1); (try have hF0 := (cells_heap hC0).2.2.1); (try have hG0 := (cells_heap hC0).2.2.2.1); (try have hC1 := hS.cell (i := 1) rfl); (try have hD1 := (cells_heap hC1).1); (try have hE1 := (cells_heap hC1).2.1); (try have hF1 := (cells_heap hC1).2.2.1); (try have hG1 := (cells_heap hC1).2.2.2.1); (try have hC2 := hS.cell (i := 2) rfl); (try have hD2 := (cells_heap hC2).1); (try have hE2 := (cells_heap hC2).2.1); (try have hF2 := (cells_heap hC2).2.2.1); (try have hG2 := (cells_heap hC2).2.2.2.1); (try have hC3 := hS.cell (i := 3) rfl); (try have hD3 := (cells_heap hC3).1); (try have hE3 := (cells_heap hC3).2.1); (try have hF3 := (cells_heap hC3).2.2.1); (try have hG3 := (cells_heap hC3).2.2.2.1); (try have hC4 := hS.cell (i := 4) rfl); (try have hD4 := (cells_heap hC4).1); (try have hE4 := (cells_heap hC4).2.1); (try have hF4 := (cells_heap hC4).2.2.1); (try have hG4 := (cells_heap hC4).2.2.2.1); (try have hM0 := hS.map (i := 0) rfl); (try have hM1 := hS.map (i := 1) rfl); (try have hM2 := hS.map (i := 2) rfl); (try have hM3 := hS.map (i := 3) rfl); (try have hM4 := hS.map (i := 4) rfl))
      | (apply WL.storeB (w0 := wc) tOk; (iterate 4 exact rfl); assumption; (exact extA); (iterate 3 exact rfl); (exact extA); (first | assumption | omega | (focus (apply Nat.le_trans; rotate_left; assumption; exact Below.size (by (exact extA)); done))); intro w' hb hc hX' hU; have hcc := hc; obtain ⟨h1, h2, _⟩ := hc; replace hS := Sep.updCell (i := 0) rfl hU hb hS (by (exact extA)) (by (first | exact Nat.le_refl _ | exact Below.size (by (exact extA)))); (try simp only [List.set_cons_zero, List.set_cons_succ] at hS); (try have hR0 := hS.row (i := 0) rfl); (try have hR1 := hS.row (i := 1) rfl); (try have hR2 := hS.row (i := 2) rfl); (try have hR3 := hS.row (i := 3) rfl); (try have hR4 := hS.row (i := 4) rfl); (try have hC0 := hS.cell (i := 0) rfl); (try have hD0 := (cells_heap hC0).1); (try have hE0 := (cells_heap hC0).2.1); (try have hF0 := (cells_heap hC0).2.2.1); (try have hG0 := (cells_heap hC0).2.2.2.1); (try have hC1 := hS.cell (i := 1) rfl); (try have hD1 := (cells_heap hC1).1); (try have hE1 := (cells_heap hC1).2.1); (try have hF1 := (cells_heap hC1).2.2.1); (try have hG1 := (cells_heap hC1).2.2.2.1); (try have hC2 := hS.cell (i := 2) rfl); (try have hD2 := (cells_heap hC2).1); (try have hE2 := (cells_heap hC2).2.1); (try have hF2 := (cells_heap hC2).2.2.1); (try have hG2 := (cells_heap hC2).2.2.2.1); (try have hC3 := hS.cell (i := 3) rfl); (try have hD3 := (cells_heap hC3).1); (try have hE3 := (cells_heap hC3).2.1); (try have hF3 := (cells_heap hC3).2.2.1); (try have hG3 := (cells_heap hC3).2.2.2.1); (try have hC4 := hS.cell (i := 4) rfl); (try have hD4 := (cells_heap hC4).1); (try have hE4 := (cells_heap hC4).2.1); (try have hF4 := (cells_heap hC4).2.2.1); (try have hG4 := (cells_heap hC4).2.2.2.1); (try have hM0 := hS.map (i := 0) rfl); (try have hM1 := hS.map (i := 1) rfl); (try have hM2 := hS.map (i := 2) rfl); (try have hM3 := hS.map (i := 3) rfl); (try have hM4 := hS.map (i := 4) rfl))
      | (show SX _ _ _ _ _ _ _ _ _; first | (apply SX.done; intro w' hx) | (apply SX.fl0; exact rfl) | (apply SX.fl1; exact rfl; (exact extA)) | (apply SX.br1; exact rfl; intro w' hx))
      | (show FL _ _ _ _ _ _ _ _; first | apply FL.nilX | (apply FL.loadE tOk; (iterate 5 exact rfl); (first | assumption | (focus (apply Ext.cell; rotate_left; assumption; exact extA; done)))) | (apply FL.loadAE tOk; (iterate 5 exact rfl); assumption; exact rfl) | (apply FL.indexE tOk; (iterate 8 exact rfl); assumption; exact rfl; omega; assumption; intro b off h; have hcc := h; first | (obtain ⟨h1, h2, h3, h4, h5, h6, _⟩ := h) | (obtain ⟨h1, h2, h3, _⟩ := h) | (obtain ⟨h1, h2, _⟩ := h) | (obtain ⟨h1, _⟩ := h)))
      | (show FL _ _ _ _ _ _ _ _; (refine FL.au (k := ?_)))
      | (show Z _ _ _ _ _; first | (apply Z.sxL; exact rfl) | (apply Z.sxE; (exact extA)))
      | (show WL _ _ _ _ _ _ _; first | apply WL.nil | (refine WL.au (k := ?_)))
      | (show Z _ _ _ _ _; apply Z.then_normal)
      | (show W _ _ _ _ _ _; first | apply W.seq | apply W.region | apply W.block | apply W.skip)
      | fail)
    replace hS := hS.ext hx
    (try simp only [List.set_cons_zero, List.set_cons_succ] at hS); (try have hR0 := hS.row (i := 0) rfl); (try have hR1 := hS.row (i := 1) rfl); (try have hR2 := hS.row (i := 2) rfl); (try have hR3 := hS.row (i := 3) rfl); (try have hR4 := hS.row (i := 4) rfl); (try have hC0 := hS.cell (i := 0) rfl); (try have hD0 := (cells_heap hC0).1); (try have hE0 := (cells_heap hC0).2.1); (try have hF0 := (cells_heap hC0).2.2.1); (try have hG0 := (cells_heap hC0).2.2.2.1); (try have hC1 := hS.cell (i := 1) rfl); (try have hD1 := (cells_heap hC1).1); (try have hE1 := (cells_heap hC1).2.1); (try have hF1 := (cells_heap hC1).2.2.1); (try have hG1 := (cells_heap hC1).2.2.2.1); (try have hC2 := hS.cell (i := 2) rfl); (try have hD2 := (cells_heap hC2).1); (try have hE2 := (cells_heap hC2).2.1); (try have hF2 := (cells_heap hC2).2.2.1); (try have hG2 := (cells_heap hC2).2.2.2.1); (try have hC3 := hS.cell (i := 3) rfl); (try have hD3 := (cells_heap hC3).1); (try have hE3 := (cells_heap hC3).2.1); (try have hF3 := (cells_heap hC3).2.2.1); (try have hG3 := (cells_heap hC3).2.2.2.1); (try have hC4 := hS.cell (i := 4) rfl); (try have hD4 := (cells_heap hC4).1); (try have hE4 := (cells_heap hC4).2.1); (try have hF4 := (cells_heap hC4).2.2.1); (try have hG4 := (cells_heap hC4).2.2.2.1); (try have hM0 := hS.map (i := 0) rfl); (try have hM1 := hS.map (i := 1) rfl); (try have hM2 := hS.map (i := 2) rfl); (try have hM3 := hS.map (i := 3) rfl); (try have hM4 := hS.map (i := 4) rfl)
    obtain ⟨w3, rfl⟩ : ∃ x, x = w' := ⟨_, rfl⟩
    have hX3 : Ext wc w3 := (by (exact extA))
    repeat' (first
      | (apply FL.build tOk; (iterate 7 exact rfl); kernel_rfl)
      | (show W _ _ (.region 21 _ _) _ _ _; apply W.regionGB (.fl true 0 (.fl true 1 (.fl true 2 (.fl true 5 (.fl true 6 (.br 3 (.br 4 (.br 7 (.br 8 (.fl true 9 (.br 10 (.br 11 (.fl true 12 .done) .stop) .stop)) .stop) .stop) (.br 7 (.br 4 (.br 8 (.fl true 9 (.br 10 (.br 11 (.fl true 12 .done) .stop) .stop)) .stop) .stop) .stop)) (.br 7 (.br 3 (.br 4 (.br 8 (.fl true 9 (.br 10 (.br 11 (.fl true 12 .done) .stop) .stop)) .stop) .stop) .stop) .stop))))))) [] (none) tMix; kernel_rfl)
      | ((show WL _ _ _ (⟨_, .call ⟨.value (.func 117), _, _⟩, _, _, _, _⟩ :: _) _ _ _); apply WL.callS; (iterate 4 exact rfl); exact ref11_lit _ _ (cS3 c.t k).2 g.2.1 _ _ ((Own.row encI_ok hR2).ext (by (exact extA))) (by omega) (by omega) hza (by omega))
      | ((show WL _ _ _ (⟨_, .call ⟨.value (.func 117), _, _⟩, _, _, _, _⟩ :: _) _ _ _); apply WL.callS; (iterate 4 exact rfl); exact ref11_lit _ _ (cS3 c.t k).2 g.2.2 _ _ ((Own.row encI_ok hR2).ext (by (exact extA))) (by omega) (by omega) hzb (by omega))
      | (apply WL.lit tOk; (iterate 6 exact rfl); (first | exact rfl | kernel_rfl | (simp [Instr.fill, catCells]; done)); exact rfl; intro gb w' hb hge hc hx)
      | (apply WL.append1 (z := ((litI (cS3 c.t k).2 g.2.1, litI (cS3 c.t k).2 g.2.2))) tOk encN_ok; (iterate 10 exact rfl); assumption; (exact extA); (first | exact rfl | (focus (simp only [List.length_set]; done)) | (focus (simp; done)) | (focus (simp [*]; done)) | omega | (focus (simp only [List.length_set]; omega))); (first | assumption | (refine Cells.ext ?_ (by assumption); exact extA)); exact rfl; exact rfl; (exact extA); (first | omega | (simp; omega) | (simp at *; omega)); intro a' cap' w' hO hX' hU hF; (first | replace hS := Sep.updRow (i := 0) rfl hU hO hF hS (by (exact extA)) (by (first | exact Nat.le_refl _ | exact Below.size (by (exact extA)))) | replace hS := Sep.updRow (i := 1) rfl hU hO hF hS (by (exact extA)) (by (first | exact Nat.le_refl _ | exact Below.size (by (exact extA)))) | replace hS := Sep.updRow (i := 2) rfl hU hO hF hS (by (exact extA)) (by (first | exact Nat.le_refl _ | exact Below.size (by (exact extA)))) | replace hS := Sep.updRow (i := 3) rfl hU hO hF hS (by (exact extA)) (by (first | exact Nat.le_refl _ | exact Below.size (by (exact extA)))) | replace hS := Sep.updRow (i := 4) rfl hU hO hF hS (by (exact extA)) (by (first | exact Nat.le_refl _ | exact Below.size (by (exact extA)))) | replace hS := Sep.updRow (i := 5) rfl hU hO hF hS (by (exact extA)) (by (first | exact Nat.le_refl _ | exact Below.size (by (exact extA))))); (try simp only [List.set_cons_zero, List.set_cons_succ] at hS); (try have hR0 := hS.row (i := 0) rfl); (try have hR1 := hS.row (i := 1) rfl); (try have hR2 := hS.row (i := 2) rfl); (try have hR3 := hS.row (i := 3) rfl); (try have hR4 := hS.row (i := 4) rfl); (try have hC0 := hS.cell (i := 0) rfl); (try have hD0 := (cells_heap hC0).1); (try have hE0 := (cells_heap hC0).2.1); (try have hF0 := (cells_heap hC0).2.2.1); (try have hG0 := (cells_heap hC0).2.2.2.1); (try have hC1 := hS.cell (i := 1) rfl); (try have hD1 := (cells_heap hC1).1); (try have hE1 := (cells_heap hC1).2.1); (try have hF1 := (cells_heap hC1).2.2.1); (try have hG1 := (cells_heap hC1).2.2.2.1); (try have hC2 := hS.cell (i := 2) rfl); (try have hD2 := (cells_heap hC2).1); (try have hE2 := (cells_heap hC2).2.1); (try have hF2 := (cells_heap hC2).2.2.1); (try have hG2 := (cells_heap hC2).2.2.2.1); (try have hC3 := hS.cell (i := 3) rfl); (try have hD3 := (cells_heap hC3).1); (try have hE3 := (cells_heap hC3).2.1); (try have hF3 := (cells_heap hC3).2.2.1); (try have hG3 := (cells_heap hC3).2.2.2.1); (try have hC4 := hS.cell (i := 4) rfl); (try have hD4 := (cells_heap hC4).1); (try have hE4 := (cells_heap hC4).2.1); (try have hF4 := (cells_heap hC4).2.2.1); (try have hG4 := (cells_heap hC4).2.2.2.1); (try have hM0 := hS.map (i := 0) rfl); (try have hM1 := hS.map (i := 1) rfl); (try have hM2 := hS.map (i := 2) rfl); (try have hM3 := hS.map (i := 3) rfl); (try have hM4 := hS.map (i := 4) rfl); (obtain ⟨a2, rfl⟩ : ∃ x, x = a' := ⟨_, rfl⟩; obtain ⟨cp2, rfl⟩ : ∃ x, x = cap' := ⟨_, rfl⟩))
      | (apply WL.storeO (z' := (2 * (((cS3 c.t k).1 ++ [(litI (cS3 c.t k).2 g.2.1, litI (cS3 c.t k).2 g.2.2)]).length : Int))) tOk; (iterate 4 exact rfl); assumption; (exact extA); (iterate 3 exact rfl); exact encI_ok; assumption; exact rfl; (exact extA); intro w' hO hX' hU; (first | replace hS := Sep.updRow (i := 0) rfl hU hO (.inl rfl) hS (by (exact extA)) (by (first | exact Nat.le_refl _ | exact Below.size (by (exact extA)))) | replace hS := Sep.updRow (i := 1) rfl hU hO (.inl rfl) hS (by (exact extA)) (by (first | exact Nat.le_refl _ | exact Below.size (by (exact extA)))) | replace hS := Sep.updRow (i := 2) rfl hU hO (.inl rfl) hS (by (exact extA)) (by (first | exact Nat.le_refl _ | exact Below.size (by (exact extA)))) | replace hS := Sep.updRow (i := 3) rfl hU hO (.inl rfl) hS (by (exact extA)) (by (first | exact Nat.le_refl _ | exact Below.size (by (exact extA)))) | replace hS := Sep.updRow (i := 4) rfl hU hO (.inl rfl) hS (by (exact extA)) (by (first | exact Nat.le_refl _ | exact Below.size (by (exact extA)))) | replace hS := Sep.updRow (i := 5) rfl hU hO (.inl rfl) hS (by (exact extA)) (by (first | exact Nat.le_refl _ | exact Below.size (by (exact extA))))); (try simp only [List.set_cons_zero, List.set_cons_succ] at hS); (try have hR0 := hS.row (i := 0) rfl); (try have hR1 := hS.row (i := 1) rfl); (try have hR2 := hS.row (i := 2) rfl); (try have hR3 := hS.row (i := 3) rfl); (try have hR4 := hS.row (i := 4) rfl); (try have hC0 := hS.cell (i := 0) rfl); (try have hD0 := (cells_heap hC0).1); (try have hE0 := (cells_heap hC0).2.1); (try have hF0 := (cells_heap hC0).2.2.1); (try have hG0 := (cells_heap hC0).2.2.2.1); (try have hC1 := hS.cell (i := 1) rfl); (try have hD1 := (cells_heap hC1).1); (try have hE1 := (cells_heap hC1).2.1); (try have hF1 := (cells_heap hC1).2.2.1); (try have hG1 := (cells_heap hC1).2.2.2.1); (try have hC2 := hS.cell (i := 2) rfl); (try have hD2 := (cells_heap hC2).1); (try have hE2 := (cells_heap hC2).2.1); (try have hF2 := (cells_heap hC2).2.2.1); (try have hG2 := (cells_heap hC2).2.2.2.1); (try have hC3 := hS.cell (i := 3) rfl); (try have hD3 := (cells_heap hC3).1); (try have hE3 := (cells_heap hC3).2.1); (try have hF3 := (cells_heap hC3).2.2.1); (try have hG3 := (cells_heap hC3).2.2.2.1); (try have hC4 := hS.cell (i := 4) rfl); (try have hD4 := (cells_heap hC4).1); (try have hE4 := (cells_heap hC4).2.1); (try have hF4 := (cells_heap hC4).2.2.1); (try have hG4 := (cells_heap hC4).2.2.2.1); (try have hM0 := hS.map (i := 0) rfl); (try have hM1 := hS.map (i := 1) rfl); (try have hM2 := hS.map (i := 2) rfl); (try have hM3 := hS.map (i := 3) rfl); (try have hM4 := hS.map (i := 4) rfl))
      | (apply WL.indexO tOk; (iterate 8 exact rfl); assumption; (exact extA); exact encI_ok; (first | exact rfl | (focus (simp only [List.length_set]; done)) | (focus (simp; done)) | (focus (simp [*]; done)) | omega | (focus (simp only [List.length_set]; omega))); omega; assumption; intro gb ha hc; cases ha; have hcc := hc; first | (obtain ⟨h1, h2, h3, _⟩ := hc) | (obtain ⟨h1, h2, _⟩ := hc) | (obtain ⟨h1, _⟩ := hc))
      | (show WL _ _ _ _ _ _ _; first | apply WL.nil | (refine WL.au (k := ?_)))
      | (show SG _ _ _ _ _ _ _ _ _; first | apply SG.done | (apply SG.fl0; exact rfl) | (apply SG.br1; exact rfl) | (apply SG.br; exact rfl))
      | (show FL _ _ _ _ _ _ _ _; first | apply FL.nilS | (refine FL.au (k := ?_)))
      | (show Z _ _ _ _ _; (apply Z.sgL; exact rfl))
      | (show Z _ _ _ _ _; first | apply Z.then_normal | apply Z.block_normal)
      | (show W _ _ _ _ _ _; apply W.region)
      | fail)
    all_goals
      rw [le5] at hS
      exact Z.againO2 a2 cp2 (some ⟨gb, 0, none⟩) dp ⟨by omega, (by (exact extA)), by rw [e1]; exact hS.drop 1⟩ (by repeat' first | exact trivial | (refine And.intro ?_ ?_) | exact rfl | (rw [e1]; exact rfl) | (rw [e1]; show _ = some (Value.slice _ (List.set _ _ _).length _); rw [List.length_set]; exact rfl))
  obtain rfl : k = (ordL c.gates.2.2).length := by omega
  repeat' (first
    | (apply W.condKF; exact rfl; (focus (exact dec_false (by omega); done)))
    | (show WL _ _ _ _ _ _ _; first | apply WL.nil | (refine WL.au (k := ?_)))
    | (show Z _ _ _ _ _; first | apply Z.then_normal | apply Z.then_exit | apply Z.block_exit)
    | (show W _ _ _ _ _ _; first | apply W.seq | apply W.region | apply W.ret | apply W.exit)
    | fail)
  have e39 : cS3 c.t (ordL c.gates.2.2).length = cNet c.t := cS3_all c.t
  rw [e39] at hR1 hR2
  have hwc := Below.size hxc
  exact Z.body2 Try.results63 rfl rfl fun m => ⟨Ext.at (by (exact extA)) m, a, cp, d, dp, by rw [e39], (hR2.base hwc).ext ((Ext.refl _).at m), (hR1.base hwc).ext ((Ext.refl _).at m)⟩
end Go.Proofs.Yteidpnpbfagaeaa
namespace Go.Proofs.Yteidpnpbfagaeaa
open Go Go.Lt Go.RowKit
set_option linter.unusedVariables false
set_option linter.unusedSimpArgs false
set_option maxRecDepth 20000

/-- So many values of some. -/
def brV (l : List Bool) (m : Nat) : List Bool := (List.range m).map fun i => l.getD i false
theorem brV_len (l : List Bool) (m : Nat) : (brV l m).length = m := by simp [brV]
theorem brV_get (l : List Bool) {m i : Nat} (h : i < m) : (brV l m)[i]? = some (l.getD i false) := by
  unfold brV; rw [List.getElem?_map, List.getElem?_range h]; rfl
theorem brV_succ (l : List Bool) (m : Nat) : brV l (m + 1) = brV l m ++ [l.getD m false] := by
  unfold brV; rw [List.range_succ, List.map_append]; rfl
noncomputable def insV (c : CirT) (s i : List Bool) : List Bool := brV i c.ins.length ++ brV s c.lat.length
noncomputable def stepV (c : CirT) (s i : List Bool) : List Bool := values (cNet c).1 (insV c s i)
/-- A literal's value in a state, with an input. -/
noncomputable def litV (c : CirT) (s i : List Bool) (l : Int) : Bool := ofL (stepV c s i) (litI (cNet c).2 l)
noncomputable def nextV (c : CirT) (s i : List Bool) : List Bool := c.lat.map fun x => litV c s i x.2.1
theorem nextV_len (c : CirT) (s i : List Bool) : (nextV c s i).length = c.lat.length := by simp [nextV]
def HoldsP (c : CirT) (s i : List Bool) : Prop := ∀ l ∈ c.cons, litV c s i l = true
def BadP (c : CirT) (s i : List Bool) (p : Int) : Prop := 0 ≤ p ∧ ∃ l, c.bads[p.toNat]? = some l ∧ litV c s i l = true
/-- What a used literal's variable is. -/
theorem net_lit {c : CirT} (h : GoodC' c) {l : Int} (hl : l ∈ c.used) : ∃ z, (cNet c).2[(l / 2).toNat]? = some z ∧ 0 ≤ z ∧ z % 2 = 0 ∧ z ≤ 2 * ((cNet c).1.length : Int) := by
  have h0 := (cNet_ok h).1
  refine h0.ge ?_
  have h1 := h.used l hl
  rcases Int.lt_or_le 1 l with h2 | h2
  · exact .inr ⟨_, seq_all h (h.has l hl h2), by omega⟩
  · left; omega
theorem litV_ref {A : List Int} {V : List Bool} {l z : Int} (h1 : A[(l / 2).toNat]? = some z) (h2 : 0 ≤ z) : (ofL V z != decide (l % 2 = 1)) = ofL V (litI A l) := by
  rw [litI_some h1]
  unfold xorI
  by_cases h : l % 2 = 1
  · rw [if_pos h, ofL_xor1 _ h2, decide_eq_true h]; simp
  · rw [if_neg h, decide_eq_false h]; simp
theorem used_next {c : CirT} {x : T3} (h : x ∈ c.lat) : x.2.1 ∈ c.used := List.mem_append_left _ (List.mem_append_right _ (List.mem_map.2 ⟨x, h, rfl⟩))
theorem used_bad {c : CirT} {l : Int} (h : l ∈ c.bads) : l ∈ c.used := List.mem_append_left _ (List.mem_append_left _ (List.mem_append_left _ (List.mem_append_right _ h)))
theorem used_con {c : CirT} {l : Int} (h : l ∈ c.cons) : l ∈ c.used := List.mem_append_left _ (List.mem_append_left _ (List.mem_append_right _ h))
theorem net_len {c : CirT} (h : GoodC' c) (hz : SzC c 100000) : (cNet c).1.length ≤ 300000 := by
  rw [(cNet_ok h).1.len1]
  have h2 := (ordL_is c.gates).1.le
  obtain ⟨z1, z2, z3, z4, z5, z6⟩ := hz
  show (c.ins ++ c.lat.map (·.1) ++ (ordL c.gates).map (fun i => (gAt c.gates i).1)).length ≤ _
  simp; omega
end Go.Proofs.Yteidpnpbfagaeaa
namespace Go.Proofs.Yteidpnpbfagaeaa
open Go Go.Lt Go.RowKit
set_option linter.unusedVariables false
set_option linter.unusedSimpArgs false
set_option maxRecDepth 20000

def KnL (c : CirT) (l : Int) : Prop := 0 ≤ l ∧ (1 < l → l - l % 2 ∈ c.own)
theorem knL_used {c : CirT} (h : GoodC' c) {l : Int} (hl : l ∈ c.used) : KnL c l := ⟨(h.used l hl).1, h.has l hl⟩
theorem knL_lit {c : CirT} (h : GoodC' c) {l : Int} (hl : KnL c l) : ∃ z, (cNet c).2[(l / 2).toNat]? = some z ∧ 0 ≤ z ∧ z % 2 = 0 ∧ z ≤ 2 * ((cNet c).1.length : Int) := by
  have h0 := (cNet_ok h).1
  refine h0.ge ?_
  rcases Int.lt_or_le 1 l with h2 | h2
  · exact .inr ⟨_, seq_all h (hl.2 h2), by omega⟩
  · left; have := hl.1; omega
theorem knL_max {c : CirT} (h : GoodC' c) {l : Int} (hl : KnL c l) : l ≤ 2 * c.max + 1 := by
  have hm := h.max
  by_cases h1 : 1 < l
  · have := h.own _ (hl.2 h1); omega
  · omega
theorem knL_range {c : CirT} (h : GoodC' c) {l : Int} (hl : KnL c l) : 0 ≤ litI (cNet c).2 l ∧ litI (cNet c).2 l ≤ 2 * ((cNet c).1.length : Int) + 1 := by
  obtain ⟨z, h1, h2, h3, h4⟩ := knL_lit h hl
  rw [litI_some h1]
  unfold xorI Lt.xor1
  split <;> (try split) <;> omega
theorem cIn_nodes : ∀ (ls : List Int) (s : NA), (cIn s ls).1 = s.1 ++ ls.map (fun _ => ((-1, 0) : Int × Int))
  | [], s => by simp [cIn]
  | l :: ls, s => by
    have ih := cIn_nodes ls (cput s l (-1, 0))
    show (cIn (cput s l (-1, 0)) ls).1 = _
    rw [ih]
    simp [cput]
theorem net_nodes {c : CirT} (h : GoodC' c) : ∀ k, k ≤ (ordL c.gates).length →
    ∀ (j : Nat) x, (cGates c.gates (cIn ([], cAt0 c.max) c.inl) ((ordL c.gates).take k)).1[j]? = some x → (x.1 < 0 ↔ j < c.inl.length) := by
  intro k
  induction k with
  | zero =>
    intro _ j x hx
    have e : (cGates c.gates (cIn ([], cAt0 c.max) c.inl) ((ordL c.gates).take 0)).1 = c.inl.map (fun _ => ((-1, 0) : Int × Int)) := by
      show (cIn ([], cAt0 c.max) c.inl).1 = _
      rw [cIn_nodes]; rfl
    rw [e, List.getElem?_map] at hx
    cases hl : c.inl[j]? with
    | none => rw [hl] at hx; cases hx
    | some y =>
      rw [hl] at hx
      rw [← Option.some.inj hx]
      exact ⟨fun _ => lt_of_get hl, fun _ => (show (-1 : Int) < 0 by decide)⟩
  | succ k ih =>
    intro hk j x hx
    obtain ⟨i, hi⟩ := getI (ordL c.gates) (show k < _ by omega)
    have ih' := ih (by omega)
    have h1 := (net_to h k (by omega)).1
    have hO := (ordL_is c.gates).1
    obtain ⟨g, hg, hn, hr⟩ := (hO k i hi).1
    have hm' := List.mem_of_getElem? hg
    have ua : g.2.1 ∈ c.used := List.mem_append_right _ (List.mem_flatMap.2 ⟨g, hm', by simp⟩)
    obtain ⟨za, a1, a2, a3, a4⟩ := h1.ge (used_put h ua fun j x hx hj => (hr j x hx hj).1)
    have eg : gAt c.gates i = g := gAt_of hg
    rw [take_succ' hi, cGates_snoc] at hx
    unfold cGate at hx
    rw [eg] at hx
    have hx' : ((cGates c.gates (cIn ([], cAt0 c.max) c.inl) ((ordL c.gates).take k)).1 ++ [_])[j]? = some x := hx
    rw [litI_some a1] at hx'
    have hlen := h1.len1
    rw [List.length_append] at hlen
    by_cases hj : j < (cGates c.gates (cIn ([], cAt0 c.max) c.inl) ((ordL c.gates).take k)).1.length
    · rw [List.getElem?_append_left hj] at hx'; exact ih' j x hx'
    · rw [List.getElem?_append_right (by omega)] at hx'
      have h0 : j - (cGates c.gates (cIn ([], cAt0 c.max) c.inl) ((ordL c.gates).take k)).1.length = 0 := by have := lt_of_get hx'; simpa using this
      rw [h0] at hx'
      simp only [List.getElem?_cons_zero, Option.some.injEq] at hx'
      subst hx'
      have ka : 0 ≤ xorI za (g.2.1 % 2) := by unfold xorI Lt.xor1; split <;> (try split) <;> omega
      constructor
      · intro hh; dsimp only at hh; omega
      · intro hh; omega
theorem net_in {c : CirT} (h : GoodC' c) {j : Nat} {x : Int × Int} (hx : (cNet c).1[j]? = some x) : x.1 < 0 ↔ j < c.inl.length := by
  have := net_nodes h (ordL c.gates).length (Nat.le_refl _) j x
  rw [List.take_length] at this
  exact this hx
theorem inl_len (c : CirT) : c.inl.length = c.ins.length + c.lat.length := by show (c.ins ++ c.lat.map (·.1)).length = _; simp
theorem net_cnt {c : CirT} (h : GoodC' c) : ∀ k, k ≤ (cNet c).1.length → cnt (cNet c).1 k = min k c.inl.length
  | 0, _ => by simp [cnt]
  | k + 1, hk => by
    obtain ⟨x, hx⟩ := getI (cNet c).1 (show k < _ by omega)
    have ih := net_cnt h k (by omega)
    have hi := net_in h hx
    by_cases hin : x.1 < 0
    · have := hi.1 hin
      rw [cnt_in hx hin, ih]; omega
    · have : ¬ k < c.inl.length := fun hh => hin (hi.2 hh)
      rw [cnt_gate hx hin, ih]; omega
theorem net_all {c : CirT} (h : GoodC' c) : cnt (cNet c).1 (cNet c).1.length = c.ins.length + c.lat.length := by
  rw [net_cnt h _ (Nat.le_refl _), inl_len]
  have h1 := (cNet_ok h).1.len1
  have h2 : (c.inl ++ (ordL c.gates).map (fun i => (gAt c.gates i).1)).length = c.inl.length + (ordL c.gates).length := by rw [List.length_append, List.length_map]
  rw [show c.seq = c.inl ++ (ordL c.gates).map (fun i => (gAt c.gates i).1) from rfl, h2, inl_len] at h1
  omega

def b3 (b : Bool) : Int := if b = true then 1 else 0
def v3 (l : List Bool) : List Int := l.map b3
theorem v3_len (l : List Bool) : (v3 l).length = l.length := List.length_map _
noncomputable def lifI (c : CirT) (s i : List Bool) : List Int := v3 (brV i c.ins.length) ++ v3 (brV s c.lat.length)
noncomputable def lifW (c : CirT) (want : List Int) : List Int := want.map (litI (cNet c).2)
def lifK (c : CirT) : List Bool := List.replicate c.ins.length true
noncomputable def lifD (c : CirT) (s i : List Bool) (want : List Int) : List Int := dropL (cNet c).1 (lifI c s i) (lifW c want) (lifK c)
def LifP (c : CirT) (s i : List Bool) (want : List Int) : Prop := SureP (cNet c).1 (lifI c s i) (lifW c want)
/-- The cube of the first m latches. -/
def cubV (d : List Int) (ni : Nat) : Nat → List Int
  | 0 => []
  | m + 1 => cubV d ni m ++ (if d.getD (ni + m) 2 = 2 then [] else [2 * (m : Int) + 1 - d.getD (ni + m) 2])
noncomputable def lifC (c : CirT) (s i : List Bool) (want : List Int) : List Int := cubV (lifD c s i want) c.ins.length c.lat.length
theorem cubV_len (d : List Int) (ni : Nat) : ∀ m, (cubV d ni m).length ≤ m
  | 0 => Nat.le_refl _
  | m + 1 => by
    have := cubV_len d ni m
    unfold cubV
    rw [List.length_append]
    split <;> simp <;> omega
theorem lifI_len (c : CirT) (s i : List Bool) : (lifI c s i).length = c.ins.length + c.lat.length := by unfold lifI; rw [List.length_append, v3_len, v3_len, brV_len, brV_len]
theorem lifI_lat {c : CirT} {s i : List Bool} {k : Nat} (h : k < c.lat.length) : tin (lifI c s i) (c.ins.length + k) = b3 (s.getD k false) := by
  unfold tin lifI v3
  have e : (((brV i c.ins.length).map b3) ++ ((brV s c.lat.length).map b3))[c.ins.length + k]? = some (b3 (s.getD k false)) := by
    rw [List.getElem?_append_right (by rw [List.length_map, brV_len]; omega), List.length_map, brV_len, Nat.add_sub_cancel_left, List.getElem?_map, brV_get s h]; rfl
  rw [getD_of e]; unfold b3 val3; split <;> rfl
theorem tin_tab {n : List (Int × Int)} {ins : List Int} {c : Nat} : tin (tab (cnt n n.length) (tin ins)) c = if c < cnt n n.length then tin ins c else 2 := by
  by_cases h : c < cnt n n.length
  · rw [if_pos h]
    unfold tin
    rw [getD_of (tab_get _ h)]
    unfold val3; split <;> (try split) <;> omega
  · rw [if_neg h]
    unfold tin
    rw [List.getD, List.getElem?_eq_none (by rw [tab_len]; omega)]; rfl
/-- Which state is in a cube. -/
def InCube (k : List Int) (st : List Bool) : Prop := ∀ x ∈ k, 0 ≤ x ∧ (x / 2).toNat < st.length ∧ st.getD (x / 2).toNat false = decide (x % 2 = 0)
section
variable {c : CirT} {s i : List Bool} {want : List Int}
theorem sure_tab (h : GoodC' c) (hn : (cNet c).1.length ≤ 1048576) (hs : LifP c s i want) : SureP (cNet c).1 (tab (cnt (cNet c).1 (cNet c).1.length) (tin (lifI c s i))) (lifW c want) := by
  refine sure_mono (cNet_ok h).2 hn (fun q => ?_) hs
  rw [tin_tab]
  by_cases hq : q < cnt (cNet c).1 (cNet c).1.length
  · rw [if_pos hq]; exact .inr rfl
  · rw [if_neg hq]
    left
    unfold tin
    rw [List.getD, List.getElem?_eq_none (by rw [lifI_len, ← net_all h]; omega)]; rfl
theorem lifD_len (h : GoodC' c) (hn : (cNet c).1.length ≤ 1048576) (hs : LifP c s i want) : (lifD c s i want).length = c.ins.length + c.lat.length := by
  unfold lifD dropL
  rw [if_pos (sure_tab h hn hs), dropTo_len, net_all h]
theorem lifD_lat (h : GoodC' c) (hn : (cNet c).1.length ≤ 1048576) (hs : LifP c s i want) {q : Nat} (hq : q < c.lat.length) : (lifD c s i want).getD (c.ins.length + q) 2 = 2 ∨ (lifD c s i want).getD (c.ins.length + q) 2 = b3 (s.getD q false) := by
  unfold lifD dropL
  rw [if_pos (sure_tab h hn hs)]
  rcases dropTo_le (n := (cNet c).1) (ins := lifI c s i) (l := lifW c want) (keep := lifK c) (k := 0) (Nat.zero_le (cnt (cNet c).1 (cNet c).1.length)) (c.ins.length + q) with h1 | h1
  · exact .inl h1
  · right
    rw [h1]
    show (tab (cnt (cNet c).1 (cNet c).1.length) (tin (lifI c s i))).getD (c.ins.length + q) 2 = _
    rw [tab_getD _ _ (by rw [net_all h]; omega), lifI_lat hq]
end
end Go.Proofs.Yteidpnpbfagaeaa
