/- SigTells: what the variables of a good net look like, by any seed, and which literals look the same, are the reference's. No conditions. -/
import Derived.Test.YtlcenenkloicjaaRows
import Derived.Lib.SmallJoins
import Derived.KernelRfl
import Derived.WalkKit
import Derived.ProofKit
import Derived.Deep.Quiet
import Derived.Deep.LoopGhost
import Derived.StillTail
import Derived.OpenShut
import Derived.ShutString
import Derived.ChangeOld
import Derived.Deep.Slices
import Derived.SizedLaws
import Derived.Laws.StructEq
import Derived.Laws.IdiomStrings
import Derived.Laws.Concat
import Derived.Test.YtlcenenkloicjaaProg
import Derived.Test.YtlcenenkloicjaaSigTellsP2
namespace Go.Proofs.Ytlcenenkloicjaa
open Go Go.Lt Go.RowKit
set_option linter.unusedVariables false
set_option linter.unusedSimpArgs false
set_option maxRecDepth 20000

abbrev live30 : List (Int × Int) := [(-1, 0), (2, 2)]
theorem good30 : GoodNet live30 := by
  intro i x h
  match i, h with
  | 0, h => cases h; unfold badNode; decide
  | 1, h => cases h; unfold badNode; decide
theorem cls30 : clsV live30 (BitVec.ofInt 64 1) 1 = [[2, 4]] := by decide +kernel
theorem lives30 (w : World) : Pure Try.prog 8 [] w (.bool true) := by
  refine Spec.of _ Try.func8 rfl Try.ntmps8 (by kernel_rfl) rfl ?_
  repeat' (first
    | (apply WL.build tOk; exact rfl; exact rfl; exact rfl; exact rfl; exact rfl; exact rfl; exact rfl; kernel_rfl)
    | (apply WL.lit tOk; exact rfl; exact rfl; exact rfl; exact rfl; exact rfl; exact rfl; (first | exact rfl | kernel_rfl | (simp [Instr.fill, catCells]; done)); exact rfl; intro gb w' hb hge hc hx; have hO := Own.of_block (live30) encN_ok hb hge rfl; (obtain ⟨g1, rfl⟩ : ∃ x, x = gb := ⟨_, rfl⟩; obtain ⟨w1, rfl⟩ : ∃ x, x = w' := ⟨_, rfl⟩; obtain ⟨hx1, rfl⟩ : ∃ x, x = hx := ⟨_, rfl⟩; have Rn := Own.row encN_ok hO; clear hO))
    | (((show WL _ _ _ (⟨_, .call ⟨.value (.func 11), _, _⟩, _, _, _, _⟩ :: _) _ _ _); apply WL.call; exact rfl; exact rfl; exact rfl; exact rfl; exact sig_Classes _ _ live30 (BitVec.ofInt 64 1) 1 _ (Rn.ext (by (exact extA))) good30 (by decide) 1 (by decide); rintro v' w2 ⟨hx2, a2, c2, ks, rfl, RK, hK, hv⟩; rw [cls30] at hv; have hkl : ks.length = 1 := (by have := congrArg List.length hv; rwa [List.length_map] at this); obtain ⟨r, hr⟩ := getI ks (show 0 < ks.length by omega)))
    | (apply WL.gT; exact rfl; exact rfl; (focus (first | exact dec_true (by omega); done)))
    | (apply WL.lit tOk; exact rfl; exact rfl; exact rfl; exact rfl; exact rfl; exact rfl; (first | exact rfl | kernel_rfl | (simp [Instr.fill, catCells]; done)); exact rfl; intro gb w' hb hge hc hx; have hO := Own.of_block ([(2 : Int), 4]) encI_ok hb hge rfl; (obtain ⟨w3, rfl⟩ : ∃ x, x = w' := ⟨_, rfl⟩; obtain ⟨hx3, rfl⟩ : ∃ x, x = hx := ⟨_, rfl⟩; have Rl := Own.row encI_ok hO; clear hO))
    | (show WL _ _ _ _ _ _ _; first | apply WL.nil | (refine WL.au (k := ?_)) | (apply WL.index tOk; exact rfl; exact rfl; exact rfl; exact rfl; exact rfl; exact rfl; exact rfl; exact rfl; assumption; (exact extA); exact rfl; omega; assumption; intro b off h; have hcc := h; first | (obtain ⟨h1, h2, h3, h4, h5, h6, _⟩ := h) | (obtain ⟨h1, h2, h3, _⟩ := h) | (obtain ⟨h1, h2, _⟩ := h) | (obtain ⟨h1, _⟩ := h)))
    | (show Z _ _ _ _ _; apply Z.then_normal)
    | (show W _ _ _ _ _ _; first | apply W.seq | apply W.region)
    | fail)
  have hrv : r.2.2 = [2, 4] := by
    have h1 := congrArg (fun l => l[0]?) hv
    simp only [List.getElem?_map, hr, Option.map_some] at h1
    exact Option.some.inj h1
  have hRr := hK r (List.mem_of_getElem? hr)
  repeat' (first
    | ((show WL _ _ _ (⟨_, .call ⟨.value (.func 14), _, _⟩, _, _, _, _⟩ :: _) _ _ _); apply WL.callS; exact rfl; exact rfl; exact rfl; exact rfl; exact ref_Ints _ _ _ _ r.2.2 [2, 4] _ (hRr.ext (by (exact extA))) (Rl.ext (by (exact extA))))
    | (show WL _ _ _ _ _ _ _; first | apply WL.nil | (refine WL.au (k := ?_)))
    | (show Z _ _ _ _ _; apply Z.then_normal)
    | (show W _ _ _ _ _ _; apply W.ret)
    | fail)
  exact Z.body1 Try.results8 rfl fun m => ⟨congrArg Value.bool (dec_true hrv), Ext.at (hx1.trans (hx2.trans extF)) m⟩

set_option maxHeartbeats 4000000 in
theorem law_SigTells (ra : Option Addr) (cap : Nat) (n : List (Int × Int)) (s : BitVec 64) (words : Int) (w : World) (R : Row 2 encN w ra n) (hwd : inI64 words) :
    Pure Try.prog 3 [.slice ra n.length cap, u64 s, .int .i64 words] w (.bool true) := by
  unfold inI64 at hwd
  by_cases hs : (n.length : Int) ≤ 40 ∧ GoodNet n
  rotate_left
  · refine Spec.of _ Try.func3 rfl Try.ntmps3 (by kernel_rfl) rfl ?_
    repeat' (first
      | ((show WL _ _ _ (⟨_, .call ⟨.value (.func 7), _, _⟩, _, _, _, _⟩ :: _) _ _ _); apply WL.callS; exact rfl; exact rfl; exact rfl; exact rfl; exact law07_Small _ _ n 40 _ R (by decide))
      | (apply W.condKT; exact rfl; (focus (first | (rw [dec_false hs]; rfl); done)))
      | ((show WL _ _ _ (⟨_, .call ⟨.value (.func 8), _, _⟩, _, _, _, _⟩ :: _) _ _ _); apply WL.callP; exact rfl; exact rfl; exact rfl; exact rfl; exact lives30 _; intro w' hx)
      | (show WL _ _ _ _ _ _ _; first | apply WL.nil | (refine WL.au (k := ?_)))
      | (show Z _ _ _ _ _; first | apply Z.then_normal | apply Z.then_ret)
      | (show W _ _ _ _ _ _; first | apply W.seq | apply W.region | apply W.ret)
      | fail)
    exact Z.body1 Try.results3 rfl fun m => ⟨rfl, Ext.at extF m⟩
  have hn := hs.1
  have hg := hs.2
  by_cases hr : 6 < words ∧ words < 64
  · skip

    obtain ⟨wc, hW⟩ : ∃ wc : Nat, min (max (words % 6) 0) 64 = (wc : Int) := ⟨(min (max (words % 6) 0) 64).toNat, by omega⟩
    have hwd' : inI64 (words % 6) := by unfold inI64; omega
    refine Spec.of _ Try.func3 rfl Try.ntmps3 (by kernel_rfl) rfl ?_
    repeat' (first
      | ((show WL _ _ _ (⟨_, .call ⟨.value (.func 7), _, _⟩, _, _, _, _⟩ :: _) _ _ _); apply WL.callS; exact rfl; exact rfl; exact rfl; exact rfl; exact law07_Small _ _ n 40 _ R (by decide))
      | (apply WL.gT; exact rfl; exact rfl; (focus (first | (rw [dec_true hs]; rfl) | exact dec_true (by omega) | exact dec_false (by omega); done)))
      | (apply WL.gF; exact rfl; exact rfl; (focus (first | (rw [dec_true hs]; rfl) | exact dec_true (by omega) | exact dec_false (by omega); done)))
      | (apply W.condKT; exact rfl; (focus (first | (rw [dec_true hs]; rfl) | exact dec_true (by omega) | exact dec_false (by omega); done)))
      | (apply W.condKF; exact rfl; (focus (first | (rw [dec_true hs]; rfl) | exact dec_true (by omega) | exact dec_false (by omega); done)))
      | (((show WL _ _ _ (⟨_, .call ⟨.value (.func 9), _, _⟩, _, _, _, _⟩ :: _) _ _ _); apply WL.call; exact rfl; exact rfl; exact rfl; exact rfl; exact sig_Sigs ra cap n s (words % 6) _ (R.ext (by (exact extA))) hg (by omega) wc hW; rintro v' w1 ⟨hx1, a1, c1, s1, rfl, hR1, hv1⟩))
      | (((show WL _ _ _ (⟨_, .call ⟨.value (.func 10), _, _⟩, _, _, _, _⟩ :: _) _ _ _); apply WL.call; exact rfl; exact rfl; exact rfl; exact rfl; exact ref30_Sigs ra cap n s (words % 6) _ (R.ext (by (exact extA))) hg (by omega) hwd' wc hW; rintro v' w2 ⟨hx2, a2, c2, s2, rfl, hR2, hv2⟩; have hl12 := congrArg List.length (hv1.trans hv2.symm); simp only [List.length_map] at hl12))
      | (((show WL _ _ _ (⟨_, .call ⟨.value (.func 11), _, _⟩, _, _, _, _⟩ :: _) _ _ _); apply WL.call; exact rfl; exact rfl; exact rfl; exact rfl; exact sig_Classes ra cap n s (words % 6) _ (R.ext (by (exact extA))) hg (by omega) wc hW; rintro v' w3 ⟨hx3, a3, c3, k3, rfl, RK3, hK3, hv3⟩))
      | (((show WL _ _ _ (⟨_, .call ⟨.value (.func 12), _, _⟩, _, _, _, _⟩ :: _) _ _ _); apply WL.call; exact rfl; exact rfl; exact rfl; exact rfl; exact ref30_Classes ra cap n s (words % 6) _ (R.ext (by (exact extA))) hg (by omega) hwd' wc hW; rintro v' w4 ⟨hx4, a4, c4, k4, rfl, RK4, hK4, hv4⟩; have hl34 := congrArg List.length (hv3.trans hv4.symm); simp only [List.length_map] at hl34))
      | (show WL _ _ _ _ _ _ _; first | apply WL.nil | (refine WL.au (k := ?_)))
      | (show Z _ _ _ _ _; apply Z.then_normal)
      | (show W _ _ _ _ _ _; first | apply W.seq | apply W.region | apply W.block | apply W.skip)
      | fail)
    have RS1 : Row 1 encRow w4 a1 s1 := (hR1.outer.row encRow_ok).ext (hx2.trans (hx3.trans hx4))
    have RS2 : Row 1 encRow w4 a2 s2 := (hR2.outer.row encRow_ok).ext (hx3.trans hx4)
    have RK3' := RK3.ext hx4
    have hX4 : Ext w w4 := hx1.trans (hx2.trans (hx3.trans hx4))
    have hk91 := RS1.len
    have hk92 := RK3'.len
    refine W.loop1 s1.length (fun k => k ≤ s1.length) (fun k => [(7, .slice a1 s1.length c1), (8, .slice a2 s2.length c2), (9, .slice a3 k3.length c3), (10, .slice a4 k4.length c4), (11, .int .i64 k)]) (Nat.zero_le _) (fun k h => h) (by repeat' first | exact trivial | (refine And.intro ?_ ?_) | exact rfl) ?_
    rintro k hk
    by_cases hlt : k < s1.length
    · obtain ⟨x, hx⟩ := getI s1 hlt
      obtain ⟨y, hy⟩ := getI s2 (show k < s2.length by omega)
      have he : x.2.2 = y.2.2 := by
        have h1 := congrArg (fun l => l[k]?) (hv1.trans hv2.symm)
        simp only [List.getElem?_map, hx, hy, Option.map_some, Option.some.injEq] at h1
        exact h1
      have hcall : Still Try.prog 13 [.slice x.1 x.2.2.length x.2.1, .slice y.1 y.2.2.length y.2.1] w4 (.bool true) := by
        have h := ref30_Words x.1 y.1 x.2.1 y.2.1 x.2.2 y.2.2 w4 (((hR1.inner k x hx).row encV_ok).ext (hx2.trans (hx3.trans hx4))) (((hR2.inner k y hy).row encV_ok).ext (hx3.trans hx4))
        rw [dec_true he] at h; exact h
      repeat' (first
        | (apply W.condKT; exact rfl; (focus (exact dec_true (by omega); done)))
        | (apply QL.callS; exact rfl; exact rfl; exact rfl; exact rfl; exact hcall)
        | (show WL _ _ _ _ _ _ _; first | apply WL.nil | (refine WL.au (k := ?_)))
        | (show QL _ _ _ _ _ _ _; first | apply QL.nil | (refine QL.au (k := ?_)) | (apply QL.index tOk; exact rfl; exact rfl; exact rfl; exact rfl; exact rfl; exact rfl; exact rfl; exact rfl; assumption; (exact extA); exact rfl; omega; assumption; intro b off h; have hcc := h; first | (obtain ⟨h1, h2, h3, h4, h5, h6, _⟩ := h) | (obtain ⟨h1, h2, h3, _⟩ := h) | (obtain ⟨h1, h2, _⟩ := h) | (obtain ⟨h1, _⟩ := h)))
        | (show Z _ _ _ _ _; first | apply Z.then_normal | apply Z.block_normal)
        | (show W _ _ _ _ _ _; first | apply W.seq | apply W.region | apply W.block | apply W.skip | (apply W.condF; exact rfl) | (apply W.regionD tMix; kernel_rfl))
        | fail)
      exact Z.again1 (by omega) (by repeat' first | exact trivial | (refine And.intro ?_ ?_) | exact rfl)
    obtain rfl : k = s1.length := by omega
    repeat' (first
      | (apply W.condKF; exact rfl; (focus (exact dec_false (by omega); done)))
      | (show WL _ _ _ _ _ _ _; first | apply WL.nil | (refine WL.au (k := ?_)))
      | (show Z _ _ _ _ _; first | apply Z.then_normal | apply Z.then_exit | apply Z.block_exit)
      | (show W _ _ _ _ _ _; first | apply W.seq | apply W.region | apply W.block | apply W.exit)
      | fail)
    refine W.loop1 k3.length (fun k => k ≤ k3.length) (fun k => [(9, .slice a3 k3.length c3), (10, .slice a4 k4.length c4), (12, .int .i64 k)]) (Nat.zero_le _) (fun k h => h) (by repeat' first | exact trivial | (refine And.intro ?_ ?_) | exact rfl) ?_
    rintro k hk
    by_cases hlt : k < k3.length
    · obtain ⟨x, hx⟩ := getI k3 hlt
      obtain ⟨y, hy⟩ := getI k4 (show k < k4.length by omega)
      have he : x.2.2 = y.2.2 := by
        have h1 := congrArg (fun l => l[k]?) (hv3.trans hv4.symm)
        simp only [List.getElem?_map, hx, hy, Option.map_some, Option.some.injEq] at h1
        exact h1
      have hcall : Still Try.prog 14 [.slice x.1 x.2.2.length x.2.1, .slice y.1 y.2.2.length y.2.1] w4 (.bool true) := by
        have h := ref_Ints x.1 y.1 x.2.1 y.2.1 x.2.2 y.2.2 w4 ((hK3 x (List.mem_of_getElem? hx)).ext hx4) (hK4 y (List.mem_of_getElem? hy))
        rw [dec_true he] at h; exact h
      repeat' (first
        | (apply W.condKT; exact rfl; (focus (exact dec_true (by omega); done)))
        | (apply QL.callS; exact rfl; exact rfl; exact rfl; exact rfl; exact hcall)
        | (show WL _ _ _ _ _ _ _; first | apply WL.nil | (refine WL.au (k := ?_)))
        | (show QL _ _ _ _ _ _ _; first | apply QL.nil | (refine QL.au (k := ?_)) | (apply QL.index tOk; exact rfl; exact rfl; exact rfl; exact rfl; exact rfl; exact rfl; exact rfl; exact rfl; assumption; (exact extA); exact rfl; omega; assumption; intro b off h; have hcc := h; first | (obtain ⟨h1, h2, h3, h4, h5, h6, _⟩ := h) | (obtain ⟨h1, h2, h3, _⟩ := h) | (obtain ⟨h1, h2, _⟩ := h) | (obtain ⟨h1, _⟩ := h)))
        | (show Z _ _ _ _ _; first | apply Z.then_normal | apply Z.block_normal)
        | (show W _ _ _ _ _ _; first | apply W.seq | apply W.region | apply W.block | apply W.skip | (apply W.condF; exact rfl) | (apply W.regionD tMix; kernel_rfl))
        | fail)
      exact Z.again1 (by omega) (by repeat' first | exact trivial | (refine And.intro ?_ ?_) | exact rfl)
    obtain rfl : k = k3.length := by omega
    repeat' (first
      | (apply W.condKF; exact rfl; (focus (exact dec_false (by omega); done)))
      | ((show WL _ _ _ (⟨_, .call ⟨.value (.func 8), _, _⟩, _, _, _, _⟩ :: _) _ _ _); apply WL.callP; exact rfl; exact rfl; exact rfl; exact rfl; exact lives30 _; intro w' hx)
      | (show WL _ _ _ _ _ _ _; first | apply WL.nil | (refine WL.au (k := ?_)))
      | (show Z _ _ _ _ _; first | apply Z.then_normal | apply Z.then_exit | apply Z.block_exit)
      | (show W _ _ _ _ _ _; first | apply W.seq | apply W.region | apply W.ret | apply W.exit)
      | fail)
    exact Z.body1 Try.results3 rfl fun m => ⟨rfl, Ext.at (hX4.trans extF) m⟩
  by_cases hr1 : 6 < words
  · skip

    obtain ⟨wc, hW⟩ : ∃ wc : Nat, min (max (words) 0) 64 = (wc : Int) := ⟨(min (max (words) 0) 64).toNat, by omega⟩
    have hwd' : inI64 (words) := by unfold inI64; omega
    refine Spec.of _ Try.func3 rfl Try.ntmps3 (by kernel_rfl) rfl ?_
    repeat' (first
      | ((show WL _ _ _ (⟨_, .call ⟨.value (.func 7), _, _⟩, _, _, _, _⟩ :: _) _ _ _); apply WL.callS; exact rfl; exact rfl; exact rfl; exact rfl; exact law07_Small _ _ n 40 _ R (by decide))
      | (apply WL.gT; exact rfl; exact rfl; (focus (first | (rw [dec_true hs]; rfl) | exact dec_true (by omega) | exact dec_false (by omega); done)))
      | (apply WL.gF; exact rfl; exact rfl; (focus (first | (rw [dec_true hs]; rfl) | exact dec_true (by omega) | exact dec_false (by omega); done)))
      | (apply W.condKF; exact rfl; (focus (first | (rw [dec_true hs]; rfl) | exact dec_true (by omega) | exact dec_false (by omega); done)))
      | (((show WL _ _ _ (⟨_, .call ⟨.value (.func 9), _, _⟩, _, _, _, _⟩ :: _) _ _ _); apply WL.call; exact rfl; exact rfl; exact rfl; exact rfl; exact sig_Sigs ra cap n s (words) _ (R.ext (by (exact extA))) hg (by omega) wc hW; rintro v' w1 ⟨hx1, a1, c1, s1, rfl, hR1, hv1⟩))
      | (((show WL _ _ _ (⟨_, .call ⟨.value (.func 10), _, _⟩, _, _, _, _⟩ :: _) _ _ _); apply WL.call; exact rfl; exact rfl; exact rfl; exact rfl; exact ref30_Sigs ra cap n s (words) _ (R.ext (by (exact extA))) hg (by omega) hwd' wc hW; rintro v' w2 ⟨hx2, a2, c2, s2, rfl, hR2, hv2⟩; have hl12 := congrArg List.length (hv1.trans hv2.symm); simp only [List.length_map] at hl12))
      | (((show WL _ _ _ (⟨_, .call ⟨.value (.func 11), _, _⟩, _, _, _, _⟩ :: _) _ _ _); apply WL.call; exact rfl; exact rfl; exact rfl; exact rfl; exact sig_Classes ra cap n s (words) _ (R.ext (by (exact extA))) hg (by omega) wc hW; rintro v' w3 ⟨hx3, a3, c3, k3, rfl, RK3, hK3, hv3⟩))
      | (((show WL _ _ _ (⟨_, .call ⟨.value (.func 12), _, _⟩, _, _, _, _⟩ :: _) _ _ _); apply WL.call; exact rfl; exact rfl; exact rfl; exact rfl; exact ref30_Classes ra cap n s (words) _ (R.ext (by (exact extA))) hg (by omega) hwd' wc hW; rintro v' w4 ⟨hx4, a4, c4, k4, rfl, RK4, hK4, hv4⟩; have hl34 := congrArg List.length (hv3.trans hv4.symm); simp only [List.length_map] at hl34))
      | (show WL _ _ _ _ _ _ _; first | apply WL.nil | (refine WL.au (k := ?_)))
      | (show Z _ _ _ _ _; apply Z.then_normal)
      | (show W _ _ _ _ _ _; first | apply W.seq | apply W.region | apply W.block | apply W.skip)
      | fail)
    have RS1 : Row 1 encRow w4 a1 s1 := (hR1.outer.row encRow_ok).ext (hx2.trans (hx3.trans hx4))
    have RS2 : Row 1 encRow w4 a2 s2 := (hR2.outer.row encRow_ok).ext (hx3.trans hx4)
    have RK3' := RK3.ext hx4
    have hX4 : Ext w w4 := hx1.trans (hx2.trans (hx3.trans hx4))
    have hk91 := RS1.len
    have hk92 := RK3'.len
    refine W.loop1 s1.length (fun k => k ≤ s1.length) (fun k => [(7, .slice a1 s1.length c1), (8, .slice a2 s2.length c2), (9, .slice a3 k3.length c3), (10, .slice a4 k4.length c4), (11, .int .i64 k)]) (Nat.zero_le _) (fun k h => h) (by repeat' first | exact trivial | (refine And.intro ?_ ?_) | exact rfl) ?_
    rintro k hk
    by_cases hlt : k < s1.length
    · obtain ⟨x, hx⟩ := getI s1 hlt
      obtain ⟨y, hy⟩ := getI s2 (show k < s2.length by omega)
      have he : x.2.2 = y.2.2 := by
        have h1 := congrArg (fun l => l[k]?) (hv1.trans hv2.symm)
        simp only [List.getElem?_map, hx, hy, Option.map_some, Option.some.injEq] at h1
        exact h1
      have hcall : Still Try.prog 13 [.slice x.1 x.2.2.length x.2.1, .slice y.1 y.2.2.length y.2.1] w4 (.bool true) := by
        have h := ref30_Words x.1 y.1 x.2.1 y.2.1 x.2.2 y.2.2 w4 (((hR1.inner k x hx).row encV_ok).ext (hx2.trans (hx3.trans hx4))) (((hR2.inner k y hy).row encV_ok).ext (hx3.trans hx4))
        rw [dec_true he] at h; exact h
      repeat' (first
        | (apply W.condKT; exact rfl; (focus (exact dec_true (by omega); done)))
        | (apply QL.callS; exact rfl; exact rfl; exact rfl; exact rfl; exact hcall)
        | (show WL _ _ _ _ _ _ _; first | apply WL.nil | (refine WL.au (k := ?_)))
        | (show QL _ _ _ _ _ _ _; first | apply QL.nil | (refine QL.au (k := ?_)) | (apply QL.index tOk; exact rfl; exact rfl; exact rfl; exact rfl; exact rfl; exact rfl; exact rfl; exact rfl; assumption; (exact extA); exact rfl; omega; assumption; intro b off h; have hcc := h; first | (obtain ⟨h1, h2, h3, h4, h5, h6, _⟩ := h) | (obtain ⟨h1, h2, h3, _⟩ := h) | (obtain ⟨h1, h2, _⟩ := h) | (obtain ⟨h1, _⟩ := h)))
        | (show Z _ _ _ _ _; first | apply Z.then_normal | apply Z.block_normal)
        | (show W _ _ _ _ _ _; first | apply W.seq | apply W.region | apply W.block | apply W.skip | (apply W.condF; exact rfl) | (apply W.regionD tMix; kernel_rfl))
        | fail)
      exact Z.again1 (by omega) (by repeat' first | exact trivial | (refine And.intro ?_ ?_) | exact rfl)
    obtain rfl : k = s1.length := by omega
    repeat' (first
      | (apply W.condKF; exact rfl; (focus (exact dec_false (by omega); done)))
      | (show WL _ _ _ _ _ _ _; first | apply WL.nil | (refine WL.au (k := ?_)))
      | (show Z _ _ _ _ _; first | apply Z.then_normal | apply Z.then_exit | apply Z.block_exit)
      | (show W _ _ _ _ _ _; first | apply W.seq | apply W.region | apply W.block | apply W.exit)
      | fail)
    refine W.loop1 k3.length (fun k => k ≤ k3.length) (fun k => [(9, .slice a3 k3.length c3), (10, .slice a4 k4.length c4), (12, .int .i64 k)]) (Nat.zero_le _) (fun k h => h) (by repeat' first | exact trivial | (refine And.intro ?_ ?_) | exact rfl) ?_
    rintro k hk
    by_cases hlt : k < k3.length
    · obtain ⟨x, hx⟩ := getI k3 hlt
      obtain ⟨y, hy⟩ := getI k4 (show k < k4.length by omega)
      have he : x.2.2 = y.2.2 := by
        have h1 := congrArg (fun l => l[k]?) (hv3.trans hv4.symm)
        simp only [List.getElem?_map, hx, hy, Option.map_some, Option.some.injEq] at h1
        exact h1
      have hcall : Still Try.prog 14 [.slice x.1 x.2.2.length x.2.1, .slice y.1 y.2.2.length y.2.1] w4 (.bool true) := by
        have h := ref_Ints x.1 y.1 x.2.1 y.2.1 x.2.2 y.2.2 w4 ((hK3 x (List.mem_of_getElem? hx)).ext hx4) (hK4 y (List.mem_of_getElem? hy))
        rw [dec_true he] at h; exact h
      repeat' (first
        | (apply W.condKT; exact rfl; (focus (exact dec_true (by omega); done)))
        | (apply QL.callS; exact rfl; exact rfl; exact rfl; exact rfl; exact hcall)
        | (show WL _ _ _ _ _ _ _; first | apply WL.nil | (refine WL.au (k := ?_)))
        | (show QL _ _ _ _ _ _ _; first | apply QL.nil | (refine QL.au (k := ?_)) | (apply QL.index tOk; exact rfl; exact rfl; exact rfl; exact rfl; exact rfl; exact rfl; exact rfl; exact rfl; assumption; (exact extA); exact rfl; omega; assumption; intro b off h; have hcc := h; first | (obtain ⟨h1, h2, h3, h4, h5, h6, _⟩ := h) | (obtain ⟨h1, h2, h3, _⟩ := h) | (obtain ⟨h1, h2, _⟩ := h) | (obtain ⟨h1, _⟩ := h)))
        | (show Z _ _ _ _ _; first | apply Z.then_normal | apply Z.block_normal)
        | (show W _ _ _ _ _ _; first | apply W.seq | apply W.region | apply W.block | apply W.skip | (apply W.condF; exact rfl) | (apply W.regionD tMix; kernel_rfl))
        | fail)
      exact Z.again1 (by omega) (by repeat' first | exact trivial | (refine And.intro ?_ ?_) | exact rfl)
    obtain rfl : k = k3.length := by omega
    repeat' (first
      | (apply W.condKF; exact rfl; (focus (exact dec_false (by omega); done)))
      | ((show WL _ _ _ (⟨_, .call ⟨.value (.func 8), _, _⟩, _, _, _, _⟩ :: _) _ _ _); apply WL.callP; exact rfl; exact rfl; exact rfl; exact rfl; exact lives30 _; intro w' hx)
      | (show WL _ _ _ _ _ _ _; first | apply WL.nil | (refine WL.au (k := ?_)))
      | (show Z _ _ _ _ _; first | apply Z.then_normal | apply Z.then_exit | apply Z.block_exit)
      | (show W _ _ _ _ _ _; first | apply W.seq | apply W.region | apply W.ret | apply W.exit)
      | fail)
    exact Z.body1 Try.results3 rfl fun m => ⟨rfl, Ext.at (hX4.trans extF) m⟩
  · skip

    obtain ⟨wc, hW⟩ : ∃ wc : Nat, min (max (words) 0) 64 = (wc : Int) := ⟨(min (max (words) 0) 64).toNat, by omega⟩
    have hwd' : inI64 (words) := by unfold inI64; omega
    refine Spec.of _ Try.func3 rfl Try.ntmps3 (by kernel_rfl) rfl ?_
    repeat' (first
      | ((show WL _ _ _ (⟨_, .call ⟨.value (.func 7), _, _⟩, _, _, _, _⟩ :: _) _ _ _); apply WL.callS; exact rfl; exact rfl; exact rfl; exact rfl; exact law07_Small _ _ n 40 _ R (by decide))
      | (apply WL.gF; exact rfl; exact rfl; (focus (first | (rw [dec_true hs]; rfl) | exact dec_true (by omega) | exact dec_false (by omega); done)))
      | (apply W.condKF; exact rfl; (focus (first | (rw [dec_true hs]; rfl) | exact dec_true (by omega) | exact dec_false (by omega); done)))
      | (((show WL _ _ _ (⟨_, .call ⟨.value (.func 9), _, _⟩, _, _, _, _⟩ :: _) _ _ _); apply WL.call; exact rfl; exact rfl; exact rfl; exact rfl; exact sig_Sigs ra cap n s (words) _ (R.ext (by (exact extA))) hg (by omega) wc hW; rintro v' w1 ⟨hx1, a1, c1, s1, rfl, hR1, hv1⟩))
      | (((show WL _ _ _ (⟨_, .call ⟨.value (.func 10), _, _⟩, _, _, _, _⟩ :: _) _ _ _); apply WL.call; exact rfl; exact rfl; exact rfl; exact rfl; exact ref30_Sigs ra cap n s (words) _ (R.ext (by (exact extA))) hg (by omega) hwd' wc hW; rintro v' w2 ⟨hx2, a2, c2, s2, rfl, hR2, hv2⟩; have hl12 := congrArg List.length (hv1.trans hv2.symm); simp only [List.length_map] at hl12))
      | (((show WL _ _ _ (⟨_, .call ⟨.value (.func 11), _, _⟩, _, _, _, _⟩ :: _) _ _ _); apply WL.call; exact rfl; exact rfl; exact rfl; exact rfl; exact sig_Classes ra cap n s (words) _ (R.ext (by (exact extA))) hg (by omega) wc hW; rintro v' w3 ⟨hx3, a3, c3, k3, rfl, RK3, hK3, hv3⟩))
      | (((show WL _ _ _ (⟨_, .call ⟨.value (.func 12), _, _⟩, _, _, _, _⟩ :: _) _ _ _); apply WL.call; exact rfl; exact rfl; exact rfl; exact rfl; exact ref30_Classes ra cap n s (words) _ (R.ext (by (exact extA))) hg (by omega) hwd' wc hW; rintro v' w4 ⟨hx4, a4, c4, k4, rfl, RK4, hK4, hv4⟩; have hl34 := congrArg List.length (hv3.trans hv4.symm); simp only [List.length_map] at hl34))
      | (show WL _ _ _ _ _ _ _; first | apply WL.nil | (refine WL.au (k := ?_)) | (apply WL.guardF; exact rfl; exact rfl))
      | (show Z _ _ _ _ _; apply Z.then_normal)
      | (show W _ _ _ _ _ _; first | apply W.seq | apply W.region | apply W.block | apply W.skip | (apply W.condF; exact rfl))
      | fail)
    have RS1 : Row 1 encRow w4 a1 s1 := (hR1.outer.row encRow_ok).ext (hx2.trans (hx3.trans hx4))
    have RS2 : Row 1 encRow w4 a2 s2 := (hR2.outer.row encRow_ok).ext (hx3.trans hx4)
    have RK3' := RK3.ext hx4
    have hX4 : Ext w w4 := hx1.trans (hx2.trans (hx3.trans hx4))
    have hk91 := RS1.len
    have hk92 := RK3'.len
    refine W.loop1 s1.length (fun k => k ≤ s1.length) (fun k => [(7, .slice a1 s1.length c1), (8, .slice a2 s2.length c2), (9, .slice a3 k3.length c3), (10, .slice a4 k4.length c4), (11, .int .i64 k)]) (Nat.zero_le _) (fun k h => h) (by repeat' first | exact trivial | (refine And.intro ?_ ?_) | exact rfl) ?_
    rintro k hk
    by_cases hlt : k < s1.length
    · obtain ⟨x, hx⟩ := getI s1 hlt
      obtain ⟨y, hy⟩ := getI s2 (show k < s2.length by omega)
      have he : x.2.2 = y.2.2 := by
        have h1 := congrArg (fun l => l[k]?) (hv1.trans hv2.symm)
        simp only [List.getElem?_map, hx, hy, Option.map_some, Option.some.injEq] at h1
        exact h1
      have hcall : Still Try.prog 13 [.slice x.1 x.2.2.length x.2.1, .slice y.1 y.2.2.length y.2.1] w4 (.bool true) := by
        have h := ref30_Words x.1 y.1 x.2.1 y.2.1 x.2.2 y.2.2 w4 (((hR1.inner k x hx).row encV_ok).ext (hx2.trans (hx3.trans hx4))) (((hR2.inner k y hy).row encV_ok).ext (hx3.trans hx4))
        rw [dec_true he] at h; exact h
      repeat' (first
        | (apply W.condKT; exact rfl; (focus (exact dec_true (by omega); done)))
        | (apply QL.callS; exact rfl; exact rfl; exact rfl; exact rfl; exact hcall)
        | (show WL _ _ _ _ _ _ _; first | apply WL.nil | (refine WL.au (k := ?_)))
        | (show QL _ _ _ _ _ _ _; first | apply QL.nil | (refine QL.au (k := ?_)) | (apply QL.index tOk; exact rfl; exact rfl; exact rfl; exact rfl; exact rfl; exact rfl; exact rfl; exact rfl; assumption; (exact extA); exact rfl; omega; assumption; intro b off h; have hcc := h; first | (obtain ⟨h1, h2, h3, h4, h5, h6, _⟩ := h) | (obtain ⟨h1, h2, h3, _⟩ := h) | (obtain ⟨h1, h2, _⟩ := h) | (obtain ⟨h1, _⟩ := h)))
        | (show Z _ _ _ _ _; first | apply Z.then_normal | apply Z.block_normal)
        | (show W _ _ _ _ _ _; first | apply W.seq | apply W.region | apply W.block | apply W.skip | (apply W.condF; exact rfl) | (apply W.regionD tMix; kernel_rfl))
        | fail)
      exact Z.again1 (by omega) (by repeat' first | exact trivial | (refine And.intro ?_ ?_) | exact rfl)
    obtain rfl : k = s1.length := by omega
    repeat' (first
      | (apply W.condKF; exact rfl; (focus (exact dec_false (by omega); done)))
      | (show WL _ _ _ _ _ _ _; first | apply WL.nil | (refine WL.au (k := ?_)))
      | (show Z _ _ _ _ _; first | apply Z.then_normal | apply Z.then_exit | apply Z.block_exit)
      | (show W _ _ _ _ _ _; first | apply W.seq | apply W.region | apply W.block | apply W.exit)
      | fail)
    refine W.loop1 k3.length (fun k => k ≤ k3.length) (fun k => [(9, .slice a3 k3.length c3), (10, .slice a4 k4.length c4), (12, .int .i64 k)]) (Nat.zero_le _) (fun k h => h) (by repeat' first | exact trivial | (refine And.intro ?_ ?_) | exact rfl) ?_
    rintro k hk
    by_cases hlt : k < k3.length
    · obtain ⟨x, hx⟩ := getI k3 hlt
      obtain ⟨y, hy⟩ := getI k4 (show k < k4.length by omega)
      have he : x.2.2 = y.2.2 := by
        have h1 := congrArg (fun l => l[k]?) (hv3.trans hv4.symm)
        simp only [List.getElem?_map, hx, hy, Option.map_some, Option.some.injEq] at h1
        exact h1
      have hcall : Still Try.prog 14 [.slice x.1 x.2.2.length x.2.1, .slice y.1 y.2.2.length y.2.1] w4 (.bool true) := by
        have h := ref_Ints x.1 y.1 x.2.1 y.2.1 x.2.2 y.2.2 w4 ((hK3 x (List.mem_of_getElem? hx)).ext hx4) (hK4 y (List.mem_of_getElem? hy))
        rw [dec_true he] at h; exact h
      repeat' (first
        | (apply W.condKT; exact rfl; (focus (exact dec_true (by omega); done)))
        | (apply QL.callS; exact rfl; exact rfl; exact rfl; exact rfl; exact hcall)
        | (show WL _ _ _ _ _ _ _; first | apply WL.nil | (refine WL.au (k := ?_)))
        | (show QL _ _ _ _ _ _ _; first | apply QL.nil | (refine QL.au (k := ?_)) | (apply QL.index tOk; exact rfl; exact rfl; exact rfl; exact rfl; exact rfl; exact rfl; exact rfl; exact rfl; assumption; (exact extA); exact rfl; omega; assumption; intro b off h; have hcc := h; first | (obtain ⟨h1, h2, h3, h4, h5, h6, _⟩ := h) | (obtain ⟨h1, h2, h3, _⟩ := h) | (obtain ⟨h1, h2, _⟩ := h) | (obtain ⟨h1, _⟩ := h)))
        | (show Z _ _ _ _ _; first | apply Z.then_normal | apply Z.block_normal)
        | (show W _ _ _ _ _ _; first | apply W.seq | apply W.region | apply W.block | apply W.skip | (apply W.condF; exact rfl) | (apply W.regionD tMix; kernel_rfl))
        | fail)
      exact Z.again1 (by omega) (by repeat' first | exact trivial | (refine And.intro ?_ ?_) | exact rfl)
    obtain rfl : k = k3.length := by omega
    repeat' (first
      | (apply W.condKF; exact rfl; (focus (exact dec_false (by omega); done)))
      | ((show WL _ _ _ (⟨_, .call ⟨.value (.func 8), _, _⟩, _, _, _, _⟩ :: _) _ _ _); apply WL.callP; exact rfl; exact rfl; exact rfl; exact rfl; exact lives30 _; intro w' hx)
      | (show WL _ _ _ _ _ _ _; first | apply WL.nil | (refine WL.au (k := ?_)))
      | (show Z _ _ _ _ _; first | apply Z.then_normal | apply Z.then_exit | apply Z.block_exit)
      | (show W _ _ _ _ _ _; first | apply W.seq | apply W.region | apply W.ret | apply W.exit)
      | fail)
    exact Z.body1 Try.results3 rfl fun m => ⟨rfl, Ext.at (hX4.trans extF) m⟩
theorem law_SigTellsI (ra : Option Addr) (cap : Nat) (n : List (Int × Int)) (s : Int) (words : Int) (w : World) (R : Row 2 encN w ra n) (hs : 0 ≤ s ∧ s ≤ 18446744073709551615) (hwd : inI64 words) :
    Pure Try.prog 3 [.slice ra n.length cap, .int .u64 s, .int .i64 words] w (.bool true) := by
  rw [u64_lit s (by omega)]
  exact law_SigTells ra cap n _ words w R hwd
end Go.Proofs.Ytlcenenkloicjaa
namespace Go.Proofs.Ytlcenenkloicjaa
open Go Go.Lt Go.ChangeShapes Go.WideShapes Go.ChangeAt Go.RowKit
set_option linter.unusedVariables false
set_option linter.unusedSimpArgs false
set_option maxRecDepth 20000
open Go.ChangeMaps (open_string shut_string)
namespace sigTells
theorem own : ownKnob Try.prog.godebug = none := by kernel_rfl
theorem laidOut : laidOutB Try.prog = true := factLaid
set_option maxRecDepth 100000 in
theorem lifted (os : Os) (started : os.Started) (H : Type) (enc : TypeId × Value → H) :
    ReturnsInHanded {} Try.checked os 3 .any (Rows.sigTellsSpec.pre6 enc Try.prog Try.f3 Rows.sigTellsRow.domain false) (Rows.sigTellsSpec.post enc Try.prog Try.f3 false true false false) := by
  refine returnsInHanded_of_change (C := Try.checked) own started (by kernel_rfl) Try.func3
    (ChangeSpec.witness6 (enc := enc) (C := Try.checked) false ⟨#[], #[.slice none 0 0, .int .u64 0, .int .i64 0], []⟩ 8 (by kernel_rfl) (by kernel_rfl) (by kernel_rfl) (by kernel_rfl)) ?_
  intro W base args ds gs before hval0 hW hcnd _
  have hval : ∀ (j : Nat) t v, Try.f3.params[j]? = some t → args[j]? = some v → Value.okWide Try.prog W .any base t v := hval0
  have hW' := hW
  obtain ⟨p, q, hA0, hV, rfl, hfz, hnd⟩ := hW
  have hA : DataW.TrodAll enc Try.prog W 0 (fun _ => true) true Try.f3.params.toList args.toList ds p := hA0
  rw [Try.params3] at hA hval
  obtain ⟨v0, vs0, d0, ds0, p0, q0, hargs, rfl, rfl, h0, r0⟩ := trodAll_cons hA
  obtain ⟨v1, vs1, d1, ds1, p1, q1, rfl, rfl, rfl, h1, r1⟩ := trodAll_cons r0
  obtain ⟨v2, vs2, d2, ds2, p2, q2, rfl, rfl, rfl, h2, r2⟩ := trodAll_cons r1
  obtain ⟨rfl, rfl, rfl⟩ := trodAll_nil r2
  obtain rfl : args = #[v0, v1, v2] := by cases args; simp_all
  obtain ⟨rfl, rfl⟩ := trodVars_none hV
  have k0 := h0
  have lt0 : ∀ x ∈ p0, x.block < W.heap.size := by obtain ⟨m, hm⟩ := k0; exact DataW.trod_lt m _ _ _ hm
  have k1 := h1
  have lt1 : ∀ x ∈ p1, x.block < W.heap.size := by obtain ⟨m, hm⟩ := k1; exact DataW.trod_lt m _ _ _ hm
  have k2 := h2
  have lt2 : ∀ x ∈ p2, x.block < W.heap.size := by obtain ⟨m, hm⟩ := k2; exact DataW.trod_lt m _ _ _ hm
  obtain ⟨a0, l0, cap0, rfl, hl0, hm0, hna0, R0, w0⟩ := row_of (s := 2) (reads_pair' (s0 := 1) (s1 := 1) Try.underlying70 (reads_int Try.underlying3) (reads_int Try.underlying3) (by kernel_rfl) rfl rfl (by kernel_rfl) (by kernel_rfl)) (by kernel_rfl) Try.underlying22 (fun _ => rfl) (by decide) (hval 0 22 v0 rfl rfl) h0
  obtain ⟨n1, rfl, rfl, rfl, w1⟩ := open_int Try.underlying23 (hval 1 23 v1 rfl rfl) h1
  obtain ⟨n2, rfl, rfl, rfl, w2⟩ := open_int Try.underlying3 (hval 2 3 v2 rfl rfl) h2
  clear hA0 hval0
  refine (Spec.law (law_SigTellsI a0 cap0 l0 n1 n2 W R0 (wf_u64 w1) (wf_i64 w2))).mono fun e W' ⟨he, bel⟩ => ?_
  subst he
  exact ⟨_, rfl, _, _, _, [], _, [], hW', trodAll_mk1 (shut_bool Try.underlying4 _), (trodAll_cons_mk (Below.trod laidOut (by kernel_rfl) (of_decide_eq_true (by kernel_rfl)) k0 bel lt0) (trodAll_cons_mk (Below.trod laidOut (by kernel_rfl) (of_decide_eq_true (by kernel_rfl)) k1 bel lt1) (trodAll_cons_mk (Below.trod laidOut (by kernel_rfl) (of_decide_eq_true (by kernel_rfl)) k2 bel lt2) trodAll_mk0))), rfl, bel.frame _, fun h => by cases h⟩
theorem j0 : (Rows.sigTellsRow.wf (OpenSpec.ofChange Rows.sigTellsSpec)) = true := by kernel_rfl
theorem j3 : (Try.f3.params.all (Try.prog.readableRec ·)) = true := by kernel_rfl
theorem j4 : (namedTie Try.prog Rows.sigTellsRow.named Rows.sigTellsSpec.vars) = true := by kernel_rfl
theorem j5 : ((Rows.sigTellsRow.stops == [])) = true := by kernel_rfl
theorem j7 : ((Rows.sigTellsRow.knobs == [])) = true := by kernel_rfl
theorem j9 : ((Rows.sigTellsRow.inPlace == Try.prog.inPlace 3)) = true := by kernel_rfl
theorem j10 : ((Rows.sigTellsRow.unfollowed == Try.prog.unfollowed 3)) = true := by kernel_rfl
theorem j11 : ((Rows.sigTellsRow.recurses == Try.prog.recurses 3)) = true := by kernel_rfl
theorem j12 : ((Rows.sigTellsRow.named == Try.prog.varsNamed 3)) = true := by kernel_rfl
theorem j13 : ((Rows.sigTellsRow.maps == (Try.f3.params.toList ++ Rows.sigTellsSpec.plain.varTypes Try.prog).any (Try.prog.mapsRec ·))) = true := by kernel_rfl
theorem j14 : ((Rows.sigTellsRow.ifaces == (Try.f3.params.toList ++ Rows.sigTellsSpec.plain.varTypes Try.prog).any (Try.prog.ifacesRec ·))) = true := by kernel_rfl
theorem j15 : ((Rows.sigTellsRow.mapsOut == Try.prog.mapsAmong Try.f3.resultTypes.toList)) = true := by kernel_rfl
theorem j16 : ((Rows.sigTellsRow.loops == (Try.f3.params.toList ++ Rows.sigTellsSpec.plain.varTypes Try.prog).any (Try.prog.loopsFrom ·))) = true := by kernel_rfl
theorem j17 : ((Rows.sigTellsRow.wideKeys == (Try.f3.params.toList ++ Rows.sigTellsSpec.plain.varTypes Try.prog ++ Try.f3.resultTypes.toList).any (Try.prog.wideKeysFrom ·))) = true := by kernel_rfl
theorem j18 : (Rows.sigTellsSpec.vars.all (Try.prog.varReadable ·)) = true := by kernel_rfl
theorem j19 : (Try.f3.resultTypes.all (fun t => Try.prog.readableRec t && decide (t < Try.prog.types.size))) = true := by kernel_rfl
theorem j20 : ((Rows.sigTellsRow.ifacesOut == Try.f3.resultTypes.toList.any (Try.prog.ifacesRec ·))) = true := by kernel_rfl
theorem j21 : ((Rows.sigTellsRow.loopsOut == Try.f3.resultTypes.toList.any (Try.prog.loopsFrom ·))) = true := by kernel_rfl
theorem j22 : ((Rows.sigTellsRow.plainKeys == Try.prog.plainKeys)) = true := by rw [show Rows.sigTellsRow.plainKeys = Rows.sigTellsRow.plainKeys by kernel_rfl]; exact factKeys
theorem j23 : (Rows.sigTellsRow.shortTexts.isNone) = true := by kernel_rfl
theorem j26 : ((Rows.sigTellsRow.lifted == Try.prog.liftsFinal)) = true := by rw [show Rows.sigTellsRow.lifted = Rows.sigTellsRow.lifted by kernel_rfl]; exact factLifts
theorem j27 : ((Try.prog.make == some Rows.sigTellsRow.make)) = true := by rw [show Rows.sigTellsRow.make = Rows.sigTellsRow.make by kernel_rfl]; exact factMake
theorem j28 : ((Rows.sigTellsRow.kinds == (if Rows.sigTellsRow.domain.isEmpty then [] else Try.f3.params.toList.map fun t => match Try.prog.underlying t with | some (.int k) => some k | _ => none))) = true := by kernel_rfl
theorem j29 : ((Rows.sigTellsRow.pinned == Rows.sigTellsRow.pinnedBy)) = true := by kernel_rfl
theorem j30 : ((Rows.sigTellsRow.veiled == (Try.f3.params.toList ++ Rows.sigTellsSpec.plain.varTypes Try.prog ++ Try.f3.resultTypes.toList).any (Try.prog.veiledRec ·))) = true := by kernel_rfl
theorem j31 : (Rows.sigTellsRow.veiledFits Try.prog Try.f3.params.toList (Try.f3.params.toList ++ Rows.sigTellsSpec.plain.varTypes Try.prog ++ Try.f3.resultTypes.toList)) = true := by kernel_rfl
set_option maxRecDepth 100000 in
theorem closed : joinedFacts Try.checked.prog 3 Try.f3 Rows.sigTellsSpec Rows.sigTellsRow = true := by unfold joinedFacts; exact (band (band (band (band (band (band (band (band (band (band (band (band (band (band (band (band (band (band (band (band (band (band (band (band (band (band (band (band (band (band (band j0 factLaid) factMaps) j3) j4) j5) factStops) j7) factKnobs) j9) j10) j11) j12) j13) j14) j15) j16) j17) j18) j19) j20) j21) j22) j23) factHeard) factEnter) j26) j27) j28) j29) j30) j31)
theorem named : Try.checked.prog.funcNamed Rows.sigTellsRow.func = some 3 := by kernel_rfl
theorem over : Rows.sigTellsRow.holds Try.pinned (OpenSpec.ofChange Rows.sigTellsSpec) :=
  OpenClaim.holds_of_wide 3 Try.f3 rfl rfl rfl rfl rfl rfl rfl ⟨rfl, rfl, rfl, rfl, rfl⟩ rfl rfl rfl rfl rfl named Try.func3 closed
    (of_decide_eq_true (by kernel_rfl)) (by unfold Func.isWrapper; first | (rw [if_pos (by decide +kernel)]; kernel_rfl) | (rw [if_neg (by decide +kernel)]; exact ⟨rfl, rfl⟩))
    (fun os started H enc _ => lifted os started H enc)
/-- The statement. -/
theorem proved : Rows.SigTellsSaid := over
end sigTells
end Go.Proofs.Ytlcenenkloicjaa
