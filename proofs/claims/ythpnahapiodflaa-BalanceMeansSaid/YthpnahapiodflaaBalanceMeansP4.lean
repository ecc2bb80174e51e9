/- BalanceMeans: the outs are what they were, whatever the inputs are, and no deeper than they were, of nets of which nothing is folded. No conditions. -/
import Derived.Test.YthpnahapiodflaaRows
import Derived.Lib.SmallJoins
import Derived.KernelRfl
import Derived.WalkKit
import Derived.ProofKit
import Derived.Deep.Quiet
import Derived.Deep.LoopGhost
import Derived.StillTail
import Derived.Test.YthpnahapiodflaaProg
import Derived.OpenShut
import Derived.ShutString
import Derived.ChangeOld
import Derived.Deep.Slices
import Derived.SizedLaws
import Derived.Laws.StructEq
import Derived.Laws.Externs
import Derived.MapKept
import Derived.Test.YthpnahapiodflaaBalanceMeansP3
namespace Go.Proofs.Ythpnahapiodflaa
open Go Go.Lt Go.RowKit
set_option linter.unusedVariables false
set_option linter.unusedSimpArgs false
set_option maxRecDepth 20000

set_option maxHeartbeats 8000000 in
theorem ref07_SameB (a b : Option Addr) (cap cb : Nat) (n m : List (Int × Int)) (w : World) (R : Row 2 encN w a n) (R2 : Row 2 encN w b m) :
    Lt.Spec Try.prog 43 [.slice a n.length cap, .slice b m.length cb] w (fun v w' => (∃ z : Bool, v = .bool z) ∧ Ext w w') := by
  have hlen := R.len
  have hlen2 := R2.len
  refine Spec.of _ Try.func43 rfl Try.ntmps43 (by kernel_rfl) rfl ?_
  by_cases hl : n.length = m.length
  rotate_left
  · repeat' (first
      | (show WL _ _ _ _ _ _ _; first | apply WL.nil | (refine WL.au (k := ?_)))
      | (show Z _ _ _ _ _; apply Z.then_normal)
      | (show W _ _ _ _ _ _; first | apply W.seq | apply W.region)
      | fail)
    refine W.condKT rfl (dec_true (by omega)) ?_
    repeat' (first
      | (show WL _ _ _ _ _ _ _; first | apply WL.nil | (refine WL.au (k := ?_)))
      | (show Z _ _ _ _ _; first | apply Z.then_normal | apply Z.then_ret)
      | (show W _ _ _ _ _ _; first | apply W.seq | apply W.region | apply W.ret)
      | fail)
    exact Z.body1 Try.results43 rfl fun q => ⟨⟨_, rfl⟩, (Ext.refl _).at q⟩
  repeat' (first
    | (show WL _ _ _ _ _ _ _; first | apply WL.nil | (refine WL.au (k := ?_)))
    | (show Z _ _ _ _ _; apply Z.then_normal)
    | (show W _ _ _ _ _ _; first | apply W.seq | apply W.region)
    | fail)
  refine W.condKF rfl (dec_false (by omega)) ?_
  repeat' (first
    | (show WL _ _ _ _ _ _ _; first | apply WL.nil | (refine WL.au (k := ?_)))
    | (show Z _ _ _ _ _; apply Z.then_normal)
    | (show W _ _ _ _ _ _; first | apply W.seq | apply W.region | apply W.block | apply W.skip)
    | fail)
  refine W.loop1 n.length (fun k => k ≤ n.length) (fun k => [(0, .slice a n.length cap), (1, .slice b m.length cb), (5, .int .i64 k)]) (by omega) (fun k h => h) ⟨rfl, rfl, rfl, trivial⟩ ?_
  rintro k hk
  by_cases hlt : k < n.length
  · obtain ⟨z, hz⟩ := getI n hlt
    obtain ⟨y, hy⟩ := getI m (show k < m.length by omega)
    repeat' (first
      | (show WL _ _ _ _ _ _ _; first | apply WL.nil | (refine WL.au (k := ?_)))
      | (show Z _ _ _ _ _; apply Z.then_normal)
      | (show W _ _ _ _ _ _; first | apply W.seq | apply W.region)
      | fail)
    refine W.condKT rfl (dec_true (by omega)) ?_
    by_cases hin : z.1 < 0 ∧ y.1 < 0
    · have k1 : dec (z.1 < 0) = true := dec_true hin.1
      have k2 : dec (y.1 < 0) = true := dec_true hin.2
      repeat' (first
        | ((apply WL.index tOk; exact rfl; exact rfl; exact rfl; exact rfl; exact rfl; exact rfl; exact rfl; exact rfl; exact R; exact (by (exact extA)); exact rfl; omega; exact hz; intro b off h; have hcc := h; obtain ⟨h1, h2, _⟩ := h))
        | ((apply WL.index tOk; exact rfl; exact rfl; exact rfl; exact rfl; exact rfl; exact rfl; exact rfl; exact rfl; exact R2; exact (by (exact extA)); exact rfl; omega; exact hy; intro b off h; have hcc := h; obtain ⟨h1, h2, _⟩ := h))
        | (apply WL.gT; exact rfl; exact rfl; (focus (first | exact k1 | exact k2; done)))
        | (apply W.condKT; exact rfl; (focus (first | exact k1 | exact k2; done)))
        | (show WL _ _ _ _ _ _ _; first | apply WL.nil | (refine WL.au (k := ?_)))
        | (show Z _ _ _ _ _; first | apply Z.then_normal | apply Z.then_exit | apply Z.block_exit)
        | (show W _ _ _ _ _ _; first | apply W.seq | apply W.region | apply W.block | apply W.skip | apply W.exit)
        | fail)
      exact Z.again1 (by omega) ⟨rfl, rfl, rfl, trivial⟩
    · by_cases h1 : z.1 < 0
      · have k1 : dec (z.1 < 0) = true := dec_true h1
        have k2 : dec (y.1 < 0) = false := dec_false (fun h => hin ⟨h1, h⟩)
        repeat' (first
          | ((apply WL.index tOk; exact rfl; exact rfl; exact rfl; exact rfl; exact rfl; exact rfl; exact rfl; exact rfl; exact R; exact (by (exact extA)); exact rfl; omega; exact hz; intro b off h; have hcc := h; obtain ⟨h1, h2, _⟩ := h))
          | ((apply WL.index tOk; exact rfl; exact rfl; exact rfl; exact rfl; exact rfl; exact rfl; exact rfl; exact rfl; exact R2; exact (by (exact extA)); exact rfl; omega; exact hy; intro b off h; have hcc := h; obtain ⟨h1, h2, _⟩ := h))
          | ((apply QL.index tOk; exact rfl; exact rfl; exact rfl; exact rfl; exact rfl; exact rfl; exact rfl; exact rfl; exact R; exact (by (exact extA)); exact rfl; omega; exact hz; intro b off h; have hcc := h; obtain ⟨h1, h2, _⟩ := h))
          | ((apply QL.index tOk; exact rfl; exact rfl; exact rfl; exact rfl; exact rfl; exact rfl; exact rfl; exact rfl; exact R2; exact (by (exact extA)); exact rfl; omega; exact hy; intro b off h; have hcc := h; obtain ⟨h1, h2, _⟩ := h))
          | (apply WL.gT; exact rfl; exact rfl; (focus (first | exact k1 | exact k2; done)))
          | (apply W.condKF; exact rfl; (focus (first | exact k1 | exact k2; done)))
          | (apply QL.neqS tOk; exact rfl; exact rfl; exact rfl; exact rfl; exact rfl; exact rfl; exact rfl; exact factNN)
          | (show WL _ _ _ _ _ _ _; first | apply WL.nil | (refine WL.au (k := ?_)))
          | (show QL _ _ _ _ _ _ _; first | apply QL.nil | (refine QL.au (k := ?_)))
          | (show Z _ _ _ _ _; first | apply Z.then_normal | apply Z.block_normal | apply Z.then_ret | apply Z.block_ret)
          | (show W _ _ _ _ _ _; first | apply W.seq | apply W.region | apply W.block | apply W.skip | apply W.ret | (apply W.condD; exact rfl; all_goals intro _) | (apply W.regionD tMix; kernel_rfl))
          | fail)
        all_goals first | exact Z.again1 (by omega) ⟨rfl, rfl, rfl, trivial⟩ | exact Z.body1 Try.results43 rfl fun q => ⟨⟨_, rfl⟩, (Ext.refl _).at q⟩
      · have k1 : dec (z.1 < 0) = false := dec_false h1
        repeat' (first
          | ((apply WL.index tOk; exact rfl; exact rfl; exact rfl; exact rfl; exact rfl; exact rfl; exact rfl; exact rfl; exact R; exact (by (exact extA)); exact rfl; omega; exact hz; intro b off h; have hcc := h; obtain ⟨h1, h2, _⟩ := h))
          | ((apply QL.index tOk; exact rfl; exact rfl; exact rfl; exact rfl; exact rfl; exact rfl; exact rfl; exact rfl; exact R; exact (by (exact extA)); exact rfl; omega; exact hz; intro b off h; have hcc := h; obtain ⟨h1, h2, _⟩ := h))
          | ((apply QL.index tOk; exact rfl; exact rfl; exact rfl; exact rfl; exact rfl; exact rfl; exact rfl; exact rfl; exact R2; exact (by (exact extA)); exact rfl; omega; exact hy; intro b off h; have hcc := h; obtain ⟨h1, h2, _⟩ := h))
          | (apply WL.gF; exact rfl; exact rfl; (focus (first | exact k1; done)))
          | (apply QL.neqS tOk; exact rfl; exact rfl; exact rfl; exact rfl; exact rfl; exact rfl; exact rfl; exact factNN)
          | (show WL _ _ _ _ _ _ _; first | apply WL.nil | (refine WL.au (k := ?_)) | (apply WL.guardF; exact rfl; exact rfl))
          | (show QL _ _ _ _ _ _ _; first | apply QL.nil | (refine QL.au (k := ?_)))
          | (show Z _ _ _ _ _; first | apply Z.then_normal | apply Z.block_normal | apply Z.then_ret | apply Z.block_ret)
          | (show W _ _ _ _ _ _; first | apply W.seq | apply W.region | apply W.block | apply W.skip | apply W.ret | (apply W.condF; exact rfl) | (apply W.condD; exact rfl; all_goals intro _) | (apply W.regionD tMix; kernel_rfl))
          | fail)
        all_goals first | exact Z.again1 (by omega) ⟨rfl, rfl, rfl, trivial⟩ | exact Z.body1 Try.results43 rfl fun q => ⟨⟨_, rfl⟩, (Ext.refl _).at q⟩
  · repeat' (first
      | (show WL _ _ _ _ _ _ _; first | apply WL.nil | (refine WL.au (k := ?_)))
      | (show Z _ _ _ _ _; apply Z.then_normal)
      | (show W _ _ _ _ _ _; first | apply W.seq | apply W.region)
      | fail)
    refine W.condKF rfl (dec_false (by omega)) ?_
    repeat' (first
      | (show WL _ _ _ _ _ _ _; first | apply WL.nil | (refine WL.au (k := ?_)))
      | (show Z _ _ _ _ _; first | apply Z.then_normal | apply Z.then_exit | apply Z.block_exit)
      | (show W _ _ _ _ _ _; first | apply W.seq | apply W.region | apply W.ret | apply W.exit)
      | fail)
    exact Z.body1 Try.results43 rfl fun q => ⟨⟨_, rfl⟩, (Ext.refl _).at q⟩
theorem depth_one {n : List (Int × Int)} {l : Int} : depthTo n [l] 1 = (if 1 < l ∧ l / 2 ≤ n.length then max 0 (lvL n l) else 0) := by
  rw [depthTo_succ (x := l) rfl]
  unfold dstp rootL
  by_cases h : 1 < l ∧ l / 2 ≤ n.length
  · rw [if_pos h, if_pos h]; rfl
  · rw [if_neg h, if_neg h]; rfl
theorem depth_le {n N : List (Int × Int)} {l t : Int} (hl : 0 ≤ l ∧ l ≤ 2 * (n.length : Int) + 1) (h : lvL N t ≤ lvL n l) : depthTo N [t] 1 ≤ depthTo n [l] 1 := by
  have p1 := lvL_pos N t
  have p2 := lvL_pos n l
  rw [depth_one, depth_one]
  by_cases h1 : 1 < l ∧ l / 2 ≤ n.length
  · rw [if_pos h1]; split <;> omega
  · rw [if_neg h1]
    have h2 : (l / 2).toNat = 0 := by omega
    have h3 : lvL n l = 0 := by unfold lvL; rw [h2]; exact lv_zero n
    split <;> omega
theorem row_one {w : World} {a : Option Addr} {xs : List Int} {x : Int} {i cap : Nat} (R : Row 1 encI w a xs) (hx : xs[i]? = some x) (hc : xs.length ≤ cap) : Row 1 encI w (subA a cap ((i : Nat) : Int).toNat 1) [x] := by
  have h1 := (R.dropAt i cap hc).take 1
  have e : (xs.drop i).take 1 = [x] := by
    have hi := lt_of_get hx
    rw [List.drop_eq_getElem_cons hi, show xs[i] = x by rw [List.getElem?_eq_getElem hi] at hx; exact Option.some.inj hx]; rfl
  rw [e] at h1
  rw [Int.toNat_natCast]
  unfold subA
  exact h1
set_option maxHeartbeats 8000000 in
theorem law_BalanceMeans (na oa ia : Option Addr) (nc oc ic : Nat) (n : List (Int × Int)) (outs : List Int) (ins : List Bool) (w : World) (Rn : Row 2 encN w na n) (Ro : Row 1 encI w oa outs) (Ri : Row 1 encB w ia ins) (hoc : outs.length ≤ oc) :
    Pure Try.prog 8 [.slice na n.length nc, .slice oa outs.length oc, .slice ia ins.length ic] w (.bool true) := by
  have hsm := law44_Small na oa nc oc n outs 40 w Rn Ro (by decide)
  by_cases hs : ((n.length : Int) ≤ 40 ∧ GoodNet n) ∧ outs.length ≤ 20 ∧ KnownP n outs
  rotate_left
  · rw [dec_false hs] at hsm
    refine Spec.of _ Try.func8 rfl Try.ntmps8 (by kernel_rfl) rfl ?_
    repeat' (first
      | (apply WL.callS; exact rfl; exact rfl; exact rfl; exact rfl; exact hsm)
      | ((show WL _ _ _ (⟨_, .call ⟨.value (.func 38), _, _⟩, _, _, _, _⟩ :: _) _ _ _); apply WL.callP; exact rfl; exact rfl; exact rfl; exact rfl; exact law48_lives _; intro w' hx)
      | (show WL _ _ _ _ _ _ _; first | apply WL.nil | (refine WL.au (k := ?_)))
      | (show Z _ _ _ _ _; first | apply Z.then_normal | apply Z.then_ret)
      | (show W _ _ _ _ _ _; first | apply W.seq | apply W.region | apply W.ret | (apply W.condT; exact rfl))
      | fail)
    exact Z.body1 Try.results8 rfl fun m => ⟨rfl, Ext.at (by (exact extA)) m⟩
  rw [dec_true hs] at hsm
  obtain ⟨⟨hl, hg⟩, hol, hkn⟩ := hs
  have ho : ∀ l ∈ outs, 0 ≤ l ∧ l ≤ 2 * (n.length : Int) + 1 := hkn
  have hB := bal_ok hg ho outs.length (Nat.le_refl _)
  have hbl := balance_Balance na oa nc oc n outs w Rn Ro hg (by omega) (by omega) ho
  have hbe : balV n outs = putsTo (putF n (usesV n outs) (n.length + 1)) (iniS n) outs outs.length := rfl
  rw [← hbe] at hB
  generalize balV n outs = q at *
  have hqN := hB.ok.small (by omega)
  have hqg := hB.ok.tidy.good
  have hql := hB.len
  refine Spec.of _ Try.func8 rfl Try.ntmps8 (by kernel_rfl) rfl ?_
  repeat' (first
    | (apply WL.callS; exact rfl; exact rfl; exact rfl; exact rfl; exact hsm)
    | (show WL _ _ _ _ _ _ _; first | apply WL.nil | (refine WL.au (k := ?_)))
    | (show Z _ _ _ _ _; apply Z.then_normal)
    | (show W _ _ _ _ _ _; first | apply W.seq | apply W.region)
    | fail)
  refine W.condKF rfl rfl ?_
  repeat' (first
    | (((show WL _ _ _ (⟨_, .call ⟨.value (.func 39), _, _⟩, _, _, _, _⟩ :: _) _ _ _); apply WL.call; exact rfl; exact rfl; exact rfl; exact rfl; exact hbl; rintro v' w2 ⟨hX2, ma, mc, ta, tc, rfl, RM, RT, _, _, htc⟩))
    | (show WL _ _ _ _ _ _ _; first | apply WL.nil | (refine WL.au (k := ?_)))
    | (show Z _ _ _ _ _; apply Z.then_normal)
    | (show W _ _ _ _ _ _; first | apply W.seq | apply W.region | apply W.skip)
    | fail)
  have hck := fun (w9 : World) (h9 : Ext w2 w9) => ref07_Check ma mc q.2.N w9 (RM.ext h9)
  rw [(check_zero (by omega)).2 hqg] at hck
  have Rn2 := Rn.ext hX2
  have Ro2 := Ro.ext hX2
  have Ri2 := Ri.ext hX2
  repeat' (first
    | (apply WL.callS; exact rfl; exact rfl; exact rfl; exact rfl; exact hck _ (by (exact extA)))
    | (apply WL.gF; exact rfl; exact rfl; (focus (first | exact dec_false (fun h => h rfl) | exact dec_false (by omega); done)))
    | (show WL _ _ _ _ _ _ _; first | apply WL.nil | (refine WL.au (k := ?_)))
    | (show Z _ _ _ _ _; apply Z.then_normal)
    | fail)
  refine W.condKF rfl (by first | rfl | exact dec_false (by omega)) ?_
  repeat' (first
    | ((show WL _ _ _ (⟨_, .call ⟨.value (.func 41), _, _⟩, _, _, _, _⟩ :: _) _ _ _); apply WL.call; exact rfl; exact rfl; exact rfl; exact rfl; exact ref07_Values na ia nc ic n ins _ (Rn2.ext (by (exact extA))) (Ri2.ext (by (exact extA))) hg (by omega); rintro v' w' ⟨hx, a', cap', rfl, hO⟩; (obtain ⟨a9, rfl⟩ : ∃ x, x = a' := ⟨_, rfl⟩; obtain ⟨c9, rfl⟩ : ∃ x, x = cap' := ⟨_, rfl⟩; obtain ⟨hO9, rfl⟩ : ∃ x, x = hO := ⟨_, rfl⟩; obtain ⟨w3, rfl⟩ : ∃ x, x = w' := ⟨_, rfl⟩; obtain ⟨hx3, rfl⟩ : ∃ x, x = hx := ⟨_, rfl⟩))
    | (show WL _ _ _ _ _ _ _; (refine WL.au (k := ?_)))
    | (show Z _ _ _ _ _; apply Z.then_normal)
    | (show W _ _ _ _ _ _; first | apply W.seq | apply W.region | apply W.skip)
    | fail)
  repeat' (first
    | ((show WL _ _ _ (⟨_, .call ⟨.value (.func 41), _, _⟩, _, _, _, _⟩ :: _) _ _ _); apply WL.call; exact rfl; exact rfl; exact rfl; exact rfl; exact ref07_Values ma ia mc ic q.2.N ins _ (RM.ext (by (exact extA))) (Ri2.ext (by (exact extA))) hqg (by omega); rintro v' w' ⟨hx, a', cap', rfl, hO⟩; (obtain ⟨aN, rfl⟩ : ∃ x, x = a' := ⟨_, rfl⟩; obtain ⟨cN, rfl⟩ : ∃ x, x = cap' := ⟨_, rfl⟩; obtain ⟨hON, rfl⟩ : ∃ x, x = hO := ⟨_, rfl⟩; obtain ⟨w4, rfl⟩ : ∃ x, x = w' := ⟨_, rfl⟩; obtain ⟨hx4, rfl⟩ : ∃ x, x = hx := ⟨_, rfl⟩))
    | (show WL _ _ _ _ _ _ _; first | apply WL.nil | (refine WL.au (k := ?_)))
    | (show Z _ _ _ _ _; apply Z.then_normal)
    | (show W _ _ _ _ _ _; first | apply W.seq | apply W.region)
    | fail)
  have hX24 : Ext w2 w4 := (by (exact extA))
  have R9 := (hO9.row encB_ok).ext (show Ext w3 w4 from (by (exact extA)))
  have RN := hON.row encB_ok
  have RM4 := RM.ext hX24
  have RT4 := RT.ext hX24
  have Rn4 := Rn2.ext hX24
  have Ro4 := Ro2.ext hX24
  clear RM RT Rn2 Ro2 Ri2 hck
  repeat' (first
    | (apply WL.build tOk; exact rfl; exact rfl; exact rfl; exact rfl; exact rfl; exact rfl; exact rfl; kernel_rfl)
    | ((show WL _ _ _ (⟨some 42, .box _ _, _, _, _, _⟩ :: _) _ _ _; apply WL.box; exact rfl; exact rfl; exact rfl; intro gs w5 hb5 hge5 _ hx5))
    | (show WL _ _ _ _ _ _ _; first | apply WL.nil | (refine WL.au (k := ?_)))
    | (show Z _ _ _ _ _; apply Z.then_normal)
    | (show W _ _ _ _ _ _; first | apply W.seq | apply W.region)
    | fail)
  have hb5' : CellC gs #[.slice none ([] : List (Int × Int)).length 0] 58 w5 := hb5.trans (by kernel_rfl)
  have hS5 : Lt.Sep w4.heap.size w5 (rsN w4.heap.size gs none 0 [] ++ []) := Sep.ofPerm (List.Perm.swap _ _ _) (Sep.newRow (s := 2) (enc := encN) (el := 104) (a := none) (cap := 0) (l := []) (Sep.newCell Sep.none' hx5 hb5' hge5 (Nat.le_refl _)) (Ext.refl _) Own.nil (fun k hk => by cases hk) (Below.size hx5))
  have hcp := rs_Copy gs 0 nc 0 none na none [] n [] [] w5 w4 hx5 hS5 (by simp; omega) hg (fun w9 _ _ _ h9 _ => Rn4.ext h9) (fun w9 _ _ _ h9 _ => Row.nil _ _ _ _)
  repeat' (first
    | (((show WL _ _ _ (⟨_, .call ⟨.value (.func 42), _, _⟩, _, _, _, _⟩ :: _) _ _ _); apply WL.call; exact rfl; exact rfl; exact rfl; exact rfl; exact hcp; rintro v' w6 ⟨hX6, a6, c6, la6, lc6, rfl, hS6⟩; obtain ⟨k0, _⟩ := cells_heap (hS6.cell (i := 0) rfl); have RC := (hS6.row (i := 1) rfl).row encN_ok))
    | (apply WL.nilc; exact rfl; exact rfl; exact rfl)
    | (((show WL _ _ _ (⟨_, .call ⟨.value (.func 43), _, _⟩, _, _, _, _⟩ :: _) _ _ _); apply WL.call; exact rfl; exact rfl; exact rfl; exact rfl; exact ref07_SameB a6 na c6 nc (copyV [] n []).2 n _ (RC.ext (by (exact extA))) (Rn4.ext (hX6.trans (by (exact extA)))); rintro v' w7 ⟨⟨plain, rfl⟩, hx7⟩))
    | (show WL _ _ _ _ _ _ _; first | apply WL.nil | (refine WL.au (k := ?_)))
    | (show Z _ _ _ _ _; apply Z.then_normal)
    | (show W _ _ _ _ _ _; first | apply W.seq | apply W.region | apply W.block)
    | fail)
  have hX47 : Ext w4 w7 := hX6.trans (by (exact extA))
  have Q9 := R9.ext hX47
  have QN := RN.ext hX47
  have QM := RM4.ext hX47
  have QT := RT4.ext hX47
  have Qn := Rn4.ext hX47
  have Qo := Ro4.ext hX47
  have hXw7 : Ext w w7 := hX2.trans (hX24.trans hX47)
  clear R9 RN RM4 RT4 Rn4 Ro4 RC hS6 hS5 k0
  have hv1 := values_len' n ins
  have hv2 := values_len' q.2.N ins
  refine W.loopW outs.length (fun i w' => i ≤ outs.length ∧ Ext w7 w') (fun i => [(0, .slice na n.length nc), (1, .slice oa outs.length oc), (7, .slice ma q.2.N.length mc), (8, .slice ta q.1.length tc), (9, .slice a9 (values n ins).length c9), (10, .slice aN (values q.2.N ins).length cN), (12, .bool plain), (13, .int .i64 i)]) ⟨Nat.zero_le _, Ext.refl _⟩ (fun k w' h => h.1) ⟨rfl, rfl, rfl, rfl, rfl, rfl, rfl, rfl, trivial⟩ ?_
  rintro i w8 ⟨hi, hX8⟩
  by_cases hlt : i < outs.length
  · obtain ⟨l, hlx⟩ := getI outs hlt
    obtain ⟨t, ht⟩ := getI q.1 (show i < q.1.length by omega)
    have hlb := ho l (List.mem_of_getElem? hlx)
    have hth := hB.has t (List.mem_of_getElem? ht)
    have hvv := hB.val ins i t l ht hlx
    have hdd := depth_le hlb (hB.deep i t l ht hlx)
    unfold hasL at hth
    have sO1 := fun (w9 : World) (h9 : Ext w7 w9) => ref07_Of aN cN (values q.2.N ins) t w9 (QN.ext h9) ⟨by omega, by omega, by omega⟩
    rw [hvv] at sO1
    have sO2 := fun (w9 : World) (h9 : Ext w7 w9) => ref07_Of a9 c9 (values n ins) l w9 (Q9.ext h9) ⟨by omega, by omega, by omega⟩
    have QT8 := QT.ext hX8
    have Qo8 := Qo.ext hX8
    repeat' (first
      | (show WL _ _ _ _ _ _ _; first | apply WL.nil | (refine WL.au (k := ?_)))
      | (show Z _ _ _ _ _; apply Z.then_normal)
      | (show W _ _ _ _ _ _; first | apply W.seq | apply W.region)
      | fail)
    refine W.condKT rfl (dec_true (by omega)) ?_
    repeat' (first
      | ((apply FL.indexE tOk; exact rfl; exact rfl; exact rfl; exact rfl; exact rfl; exact rfl; exact rfl; exact rfl; exact QT8; exact rfl; omega; exact ht; intro b off h; have hcc := h; obtain ⟨h1, _⟩ := h))
      | ((apply FL.indexE tOk; exact rfl; exact rfl; exact rfl; exact rfl; exact rfl; exact rfl; exact rfl; exact rfl; exact Qo8; exact rfl; omega; exact hlx; intro b off h; have hcc := h; obtain ⟨h1, _⟩ := h))
      | (show W _ _ (.region 13 _ _) _ _ _; apply W.regionG (.fl true 0 (.fl true 1 (.fl true 2 (.fl false 3 (.fl true 4 (.fl true 5 (.fl true 6 (.fl true 7 (.fl true 8 (.fl true 10 (.fl true 11 (.fl true 12 (.fl true 13 (.fl false 9 (.fl true 14 (.fl true 15 (.fl true 16 (.fl true 17 (.fl true 18 (.fl true 19 (.fl true 20 (.fl true 23 (.fl true 24 (.fl true 25 (.fl true 26 (.fl false 21 (.fl false 27 (.fl false 22 (.fl false 28 (.fl true 29 (.fl true 30 .done))))))))))))))))))))))))))))))) [5, 6, 7, 8, 9, 10, 11, 12, 13, 14, 15, 16, 17, 18, 19, 20, 21, 22, 23, 24, 25, 26, 27, 28, 29, 30] (Ext w8) tMix; kernel_rfl)
      | (apply FL.gF; exact rfl; exact rfl; (focus (first | exact dec_false (by omega) | exact dec_false (fun h => h rfl); done)))
      | (apply SG.flS; exact rfl; (focus ((intro m; first | assumption | (apply Ext.at; (exact extA)) | apply But.of_at; first | exact But.upd (by assumption) | exact But.ext (by (exact extA)) | (refine But.trans ?_ (But.upd (by assumption)); exact But.ext (by (exact extA))) | exact But.at _ _ _); done)); exact rfl; exact rfl; exact rfl; exact rfl; (focus (intro w9 hw9; exact sO1 _ (hX8.trans hw9))))
      | (apply SG.flS; exact rfl; (focus ((intro m; first | assumption | (apply Ext.at; (exact extA)) | apply But.of_at; first | exact But.upd (by assumption) | exact But.ext (by (exact extA)) | (refine But.trans ?_ (But.upd (by assumption)); exact But.ext (by (exact extA))) | exact But.at _ _ _); done)); exact rfl; exact rfl; exact rfl; exact rfl; (focus (intro w9 hw9; exact sO2 _ (hX8.trans hw9))))
      | (show SG _ _ _ _ _ _ _ _ _; first | apply SG.done | (apply SG.fl0; exact rfl) | (apply SG.fl1; exact rfl; (focus ((intro m; first | assumption | (apply Ext.at; (exact extA)) | apply But.of_at; first | exact But.upd (by assumption) | exact But.ext (by (exact extA)) | (refine But.trans ?_ (But.upd (by assumption)); exact But.ext (by (exact extA))) | exact But.at _ _ _); done))))
      | (show FL _ _ _ _ _ _ _ _; (apply FL.loadE tOk; exact rfl; exact rfl; exact rfl; exact rfl; exact rfl; assumption))
      | (show FL _ _ _ _ _ _ _ _; first | apply FL.nilS | (refine FL.au (k := ?_)))
      | (show Z _ _ _ _ _; apply Z.then_normal)
      | (show W _ _ _ _ _ _; first | apply W.seq | apply W.block | apply W.skip)
      | fail)
    refine W.condKF rfl (dec_false (fun h => h rfl)) ?_
    cases plain with
    | false =>
      repeat' (first
        | (show W _ _ (.region 15 _ _) _ _ _; apply W.regionG (.fl true 0 (.fl true 1 (.fl true 2 (.fl true 3 (.fl true 4 (.fl true 5 (.fl true 6 (.fl true 9 (.fl true 10 (.fl true 11 (.fl true 12 (.fl true 13 (.br 7 (.br 8 (.br 14 (.br 15 (.fl true 16 (.fl true 17 .done)) .stop) .stop) (.br 14 (.br 8 (.br 15 (.fl true 16 (.fl true 17 .done)) .stop) .stop) .stop)) (.br 14 (.br 7 (.br 8 (.br 15 (.fl true 16 (.fl true 17 .done)) .stop) .stop) .stop) .stop)))))))))))))) [] (Ext w8) tMix; kernel_rfl)
        | (show WL _ _ _ _ _ _ _; first | apply WL.nil | (apply WL.guardF; exact rfl; exact rfl))
        | (show SG _ _ _ _ _ _ _ _ _; first | apply SG.done | (apply SG.fl0; exact rfl) | (apply SG.br1; exact rfl) | (apply SG.br; exact rfl))
        | (show FL _ _ _ _ _ _ _ _; first | apply FL.nilS | (refine FL.au (k := ?_)) | (apply FL.guardF; exact rfl; exact rfl))
        | (show Z _ _ _ _ _; (apply Z.sgL; exact rfl))
        | (show Z _ _ _ _ _; apply Z.then_normal)
        | (show W _ _ _ _ _ _; first | apply W.seq | apply W.skip)
        | fail)
      all_goals
        refine W.condKF rfl rfl ?_
        repeat' (first
          | (show WL _ _ _ _ _ _ _; first | apply WL.nil | (refine WL.au (k := ?_)))
          | (show Z _ _ _ _ _; first | apply Z.then_normal | apply Z.block_normal)
          | (show W _ _ _ _ _ _; first | apply W.region | apply W.skip)
          | fail)
        exact Z.againW ⟨by omega, hX8⟩ ⟨rfl, rfl, rfl, rfl, rfl, rfl, rfl, rfl, trivial⟩
    | true =>
      have hone : ((i : Int) + 1).toNat - ((i : Nat) : Int).toNat = 1 := by omega
      have Qt1 := row_one QT ht htc
      have Ql1 := row_one Qo hlx hoc
      have d1 := fun (w9 : World) (h9 : Ext w7 w9) => ref08_Depth ma (subA ta tc ((i : Nat) : Int).toNat 1) mc (tc - ((i : Nat) : Int).toNat) q.2.N [t] w9 (QM.ext h9) (Qt1.ext h9) hqg (by omega) (fun x hx => by rw [List.mem_singleton.1 hx]; unfold inI64; omega)
      have d2 := fun (w9 : World) (h9 : Ext w7 w9) => ref08_Depth na (subA oa oc ((i : Nat) : Int).toNat 1) nc (oc - ((i : Nat) : Int).toNat) n [l] w9 (Qn.ext h9) (Ql1.ext h9) hg (by omega) (fun x hx => by rw [List.mem_singleton.1 hx]; unfold inI64; omega)
      rw [show ([t] : List Int).length = 1 from rfl] at d1
      rw [show ([l] : List Int).length = 1 from rfl] at d2
      generalize depthTo q.2.N [t] 1 = D1 at *
      generalize depthTo n [l] 1 = D2 at *
      repeat' (first
        | (show W _ _ (.region 15 _ _) _ _ _; apply W.regionG (.fl true 0 (.fl true 1 (.fl true 2 (.fl true 3 (.fl true 4 (.fl true 5 (.fl true 6 (.fl true 9 (.fl true 10 (.fl true 11 (.fl true 12 (.fl true 13 (.br 7 (.br 8 (.br 14 (.br 15 (.fl true 16 (.fl true 17 .done)) .stop) .stop) (.br 14 (.br 8 (.br 15 (.fl true 16 (.fl true 17 .done)) .stop) .stop) .stop)) (.br 14 (.br 7 (.br 8 (.br 15 (.fl true 16 (.fl true 17 .done)) .stop) .stop) .stop) .stop)))))))))))))) [] (Ext w8) tMix; kernel_rfl)
        | ((show WL _ _ _ (⟨some 96, .slice _ _ _ _ _, _, _, _, _⟩ :: _) _ _ _; apply WL.sliceLH (s := 1) tOk; exact rfl; exact rfl; exact rfl; exact rfl; exact rfl; exact rfl; exact rfl; exact rfl; exact rfl; omega; rw [hone]))
        | ((show WL _ _ _ (⟨some 103, .slice _ _ _ _ _, _, _, _, _⟩ :: _) _ _ _; apply WL.sliceLH (s := 1) tOk; exact rfl; exact rfl; exact rfl; exact rfl; exact rfl; exact rfl; exact rfl; exact rfl; exact rfl; omega; rw [hone]))
        | (((show WL _ _ _ (⟨_, .call ⟨.value (.func 45), _, _⟩, _, _, _, _⟩ :: _) _ _ _); apply WL.callP; exact rfl; exact rfl; exact rfl; exact rfl; (first | exact d1 _ (hX8.trans (by (exact extA))) | exact d2 _ (hX8.trans (by (exact extA)))); intro w' hx))
        | (show WL _ _ _ _ _ _ _; apply WL.nil)
        | (show SG _ _ _ _ _ _ _ _ _; first | apply SG.done | (apply SG.fl0; exact rfl) | (apply SG.br1; exact rfl) | (apply SG.br; exact rfl))
        | (show FL _ _ _ _ _ _ _ _; first | apply FL.nilS | (refine FL.au (k := ?_)))
        | (show Z _ _ _ _ _; (apply Z.sgL; exact rfl))
        | (show Z _ _ _ _ _; apply Z.then_normal)
        | (show W _ _ _ _ _ _; first | apply W.seq | apply W.skip)
        | fail)
      all_goals
        refine W.condKF rfl (dec_false (by omega)) ?_
        repeat' (first
          | (show WL _ _ _ _ _ _ _; first | apply WL.nil | (refine WL.au (k := ?_)))
          | (show Z _ _ _ _ _; first | apply Z.then_normal | apply Z.block_normal)
          | (show W _ _ _ _ _ _; first | apply W.region | apply W.skip)
          | fail)
        exact Z.againW ⟨by omega, (show Ext w7 _ from hX8.trans (by (exact extA)))⟩ ⟨rfl, rfl, rfl, rfl, rfl, rfl, rfl, rfl, trivial⟩
  obtain rfl : i = outs.length := by omega
  repeat' (first
    | (show WL _ _ _ _ _ _ _; first | apply WL.nil | (refine WL.au (k := ?_)))
    | (show Z _ _ _ _ _; apply Z.then_normal)
    | (show W _ _ _ _ _ _; first | apply W.seq | apply W.region)
    | fail)
  refine W.condKF rfl (dec_false (by omega)) ?_
  repeat' (first
    | ((show WL _ _ _ (⟨_, .call ⟨.value (.func 38), _, _⟩, _, _, _, _⟩ :: _) _ _ _); apply WL.callP; exact rfl; exact rfl; exact rfl; exact rfl; exact law48_lives _; intro w' hx)
    | (show WL _ _ _ _ _ _ _; first | apply WL.nil | (refine WL.au (k := ?_)))
    | (show Z _ _ _ _ _; first | apply Z.then_normal | apply Z.then_exit | apply Z.block_exit)
    | (show W _ _ _ _ _ _; first | apply W.seq | apply W.region | apply W.ret | apply W.exit)
    | fail)
  exact Z.body1 Try.results8 rfl fun m => ⟨rfl, Ext.at (hXw7.trans (hX8.trans (by (exact extA)))) m⟩
end Go.Proofs.Ythpnahapiodflaa
namespace Go.Proofs.Ythpnahapiodflaa
open Go Go.Lt Go.ChangeShapes Go.WideShapes Go.ChangeAt Go.RowKit
set_option linter.unusedVariables false
set_option linter.unusedSimpArgs false
set_option maxRecDepth 20000
open Go.ChangeMaps (open_string shut_string)
namespace balanceMeans
theorem own : ownKnob Try.prog.godebug = none := by kernel_rfl
theorem laidOut : laidOutB Try.prog = true := factLaid
set_option maxRecDepth 100000 in
theorem lifted (os : Os) (started : os.Started) (H : Type) (enc : TypeId × Value → H) :
    ReturnsInHanded {} Try.checked os 8 .any (Rows.balanceMeansSpec.pre6 enc Try.prog Try.f8 Rows.balanceMeansRow.domain false) (Rows.balanceMeansSpec.post enc Try.prog Try.f8 false true false false) := by
  refine returnsInHanded_of_change (C := Try.checked) own started (by kernel_rfl) Try.func8
    (ChangeSpec.witness6 (enc := enc) (C := Try.checked) false ⟨#[], #[.slice none 0 0, .slice none 0 0, .slice none 0 0], []⟩ 8 (by kernel_rfl) (by kernel_rfl) (by kernel_rfl) (by kernel_rfl)) ?_
  intro W base args ds gs before hval0 hW hcnd _
  have hval : ∀ (j : Nat) t v, Try.f8.params[j]? = some t → args[j]? = some v → Value.okWide Try.prog W .any base t v := hval0
  have hW' := hW
  obtain ⟨p, q, hA0, hV, rfl, hfz, hnd⟩ := hW
  have hA : DataW.TrodAll enc Try.prog W 0 (fun _ => true) true Try.f8.params.toList args.toList ds p := hA0
  rw [Try.params8] at hA hval
  obtain ⟨v0, vs0, d0, ds0, p0, q0, hargs, rfl, rfl, h0, r0⟩ := trodAll_cons hA
  obtain ⟨v1, vs1, d1, ds1, p1, q1, rfl, rfl, rfl, h1, r1⟩ := trodAll_cons r0
  obtain ⟨v2, vs2, d2, ds2, p2, q2, rfl, rfl, rfl, h2, r2⟩ := trodAll_cons r1
  obtain ⟨rfl, rfl, rfl⟩ := trodAll_nil r2
  obtain rfl : args = #[v0, v1, v2] := by cases args; simp_all
  obtain ⟨rfl, rfl⟩ := trodVars_none hV
  have k0 := h0
  have lt0 : ∀ x ∈ p0, x.block < W.heap.size := by obtain ⟨m, hm⟩ := k0; exact DataW.trod_lt m _ _ _ hm
  have k1 := h1
  have lt1 : ∀ x ∈ p1, x.block < W.heap.size := by obtain ⟨m, hm⟩ := k1; exact DataW.trod_lt m _ _ _ hm
  have k2 := h2
  have lt2 : ∀ x ∈ p2, x.block < W.heap.size := by obtain ⟨m, hm⟩ := k2; exact DataW.trod_lt m _ _ _ hm
  obtain ⟨a0, l0, cap0, rfl, hl0, hm0, hna0, R0, w0⟩ := row_of (s := 2) (reads_pair' (s0 := 1) (s1 := 1) Try.underlying104 (reads_int Try.underlying3) (reads_int Try.underlying3) (by kernel_rfl) rfl rfl (by kernel_rfl) (by kernel_rfl)) (by kernel_rfl) Try.underlying50 (fun _ => rfl) (by decide) (hval 0 50 v0 rfl rfl) h0
  obtain ⟨a1, l1, cap1, rfl, hl1, hm1, hna1, R1, w1⟩ := row_of (s := 1) (reads_int Try.underlying3) (by kernel_rfl) Try.underlying23 (fun _ => rfl) (by decide) (hval 1 23 v1 rfl rfl) h1
  obtain ⟨a2, l2, cap2, rfl, hl2, hm2, hna2, R2, w2⟩ := row_of (s := 1) (reads_bool Try.underlying4) (by kernel_rfl) Try.underlying22 (fun _ => rfl) (by decide) (hval 2 22 v2 rfl rfl) h2
  clear hA0 hval0
  refine (Spec.law (law_BalanceMeans a0 a1 a2 cap0 cap1 cap2 l0 l1 l2 W R0 R1 R2 hl1)).mono fun e W' ⟨he, bel⟩ => ?_
  subst he
  exact ⟨_, rfl, _, _, _, [], _, [], hW', trodAll_mk1 (shut_bool Try.underlying4 _), (trodAll_cons_mk (Below.trod laidOut (by kernel_rfl) (of_decide_eq_true (by kernel_rfl)) k0 bel lt0) (trodAll_cons_mk (Below.trod laidOut (by kernel_rfl) (of_decide_eq_true (by kernel_rfl)) k1 bel lt1) (trodAll_cons_mk (Below.trod laidOut (by kernel_rfl) (of_decide_eq_true (by kernel_rfl)) k2 bel lt2) trodAll_mk0))), rfl, bel.frame _, fun h => by cases h⟩
theorem j0 : (Rows.balanceMeansRow.wf (OpenSpec.ofChange Rows.balanceMeansSpec)) = true := by kernel_rfl
theorem j3 : (Try.f8.params.all (Try.prog.readableRec ·)) = true := by kernel_rfl
theorem j4 : (namedTie Try.prog Rows.balanceMeansRow.named Rows.balanceMeansSpec.vars) = true := by kernel_rfl
theorem j5 : ((Rows.balanceMeansRow.stops == [])) = true := by kernel_rfl
theorem j7 : ((Rows.balanceMeansRow.knobs == [])) = true := by kernel_rfl
theorem j9 : ((Rows.balanceMeansRow.inPlace == Try.prog.inPlace 8)) = true := by kernel_rfl
theorem j10 : ((Rows.balanceMeansRow.unfollowed == Try.prog.unfollowed 8)) = true := by kernel_rfl
theorem j11 : ((Rows.balanceMeansRow.recurses == Try.prog.recurses 8)) = true := by kernel_rfl
theorem j12 : ((Rows.balanceMeansRow.named == Try.prog.varsNamed 8)) = true := by kernel_rfl
theorem j13 : ((Rows.balanceMeansRow.maps == (Try.f8.params.toList ++ Rows.balanceMeansSpec.plain.varTypes Try.prog).any (Try.prog.mapsRec ·))) = true := by kernel_rfl
theorem j14 : ((Rows.balanceMeansRow.ifaces == (Try.f8.params.toList ++ Rows.balanceMeansSpec.plain.varTypes Try.prog).any (Try.prog.ifacesRec ·))) = true := by kernel_rfl
theorem j15 : ((Rows.balanceMeansRow.mapsOut == Try.prog.mapsAmong Try.f8.resultTypes.toList)) = true := by kernel_rfl
theorem j16 : ((Rows.balanceMeansRow.loops == (Try.f8.params.toList ++ Rows.balanceMeansSpec.plain.varTypes Try.prog).any (Try.prog.loopsFrom ·))) = true := by kernel_rfl
theorem j17 : ((Rows.balanceMeansRow.wideKeys == (Try.f8.params.toList ++ Rows.balanceMeansSpec.plain.varTypes Try.prog ++ Try.f8.resultTypes.toList).any (Try.prog.wideKeysFrom ·))) = true := by kernel_rfl
theorem j18 : (Rows.balanceMeansSpec.vars.all (Try.prog.varReadable ·)) = true := by kernel_rfl
theorem j19 : (Try.f8.resultTypes.all (fun t => Try.prog.readableRec t && decide (t < Try.prog.types.size))) = true := by kernel_rfl
theorem j20 : ((Rows.balanceMeansRow.ifacesOut == Try.f8.resultTypes.toList.any (Try.prog.ifacesRec ·))) = true := by kernel_rfl
theorem j21 : ((Rows.balanceMeansRow.loopsOut == Try.f8.resultTypes.toList.any (Try.prog.loopsFrom ·))) = true := by kernel_rfl
theorem j22 : ((Rows.balanceMeansRow.plainKeys == Try.prog.plainKeys)) = true := by rw [show Rows.balanceMeansRow.plainKeys = Rows.genCountsRow.plainKeys by kernel_rfl]; exact factKeys
theorem j23 : (Rows.balanceMeansRow.shortTexts.isNone) = true := by kernel_rfl
theorem j26 : ((Rows.balanceMeansRow.lifted == Try.prog.liftsFinal)) = true := by rw [show Rows.balanceMeansRow.lifted = Rows.genCountsRow.lifted by kernel_rfl]; exact factLifts
theorem j27 : ((Try.prog.make == some Rows.balanceMeansRow.make)) = true := by rw [show Rows.balanceMeansRow.make = Rows.genCountsRow.make by kernel_rfl]; exact factMake
theorem j28 : ((Rows.balanceMeansRow.kinds == (if Rows.balanceMeansRow.domain.isEmpty then [] else Try.f8.params.toList.map fun t => match Try.prog.underlying t with | some (.int k) => some k | _ => none))) = true := by kernel_rfl
theorem j29 : ((Rows.balanceMeansRow.pinned == Rows.balanceMeansRow.pinnedBy)) = true := by kernel_rfl
theorem j30 : ((Rows.balanceMeansRow.veiled == (Try.f8.params.toList ++ Rows.balanceMeansSpec.plain.varTypes Try.prog ++ Try.f8.resultTypes.toList).any (Try.prog.veiledRec ·))) = true := by kernel_rfl
theorem j31 : (Rows.balanceMeansRow.veiledFits Try.prog Try.f8.params.toList (Try.f8.params.toList ++ Rows.balanceMeansSpec.plain.varTypes Try.prog ++ Try.f8.resultTypes.toList)) = true := by kernel_rfl
set_option maxRecDepth 100000 in
theorem closed : joinedFacts Try.checked.prog 8 Try.f8 Rows.balanceMeansSpec Rows.balanceMeansRow = true := by unfold joinedFacts; exact (band (band (band (band (band (band (band (band (band (band (band (band (band (band (band (band (band (band (band (band (band (band (band (band (band (band (band (band (band (band (band j0 factLaid) factMaps) j3) j4) j5) factStops) j7) factKnobs) j9) j10) j11) j12) j13) j14) j15) j16) j17) j18) j19) j20) j21) j22) j23) factHeard) factEnter) j26) j27) j28) j29) j30) j31)
theorem named : Try.checked.prog.funcNamed Rows.balanceMeansRow.func = some 8 := by kernel_rfl
theorem over : Rows.balanceMeansRow.holds Try.pinned (OpenSpec.ofChange Rows.balanceMeansSpec) :=
  OpenClaim.holds_of_wide 8 Try.f8 rfl rfl rfl rfl rfl rfl rfl ⟨rfl, rfl, rfl, rfl, rfl⟩ rfl rfl rfl rfl rfl named Try.func8 closed
    (of_decide_eq_true (by kernel_rfl)) (by unfold Func.isWrapper; first | (rw [if_pos (by decide +kernel)]; kernel_rfl) | (rw [if_neg (by decide +kernel)]; exact ⟨rfl, rfl⟩))
    (fun os started H enc _ => lifted os started H enc)
/-- The statement. -/
theorem proved : Rows.BalanceMeansSaid := over
end balanceMeans
end Go.Proofs.Ythpnahapiodflaa
