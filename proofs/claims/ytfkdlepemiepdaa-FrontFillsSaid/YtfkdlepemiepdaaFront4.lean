/- Which input is tried next: the reference's. No conditions. -/
import Derived.Test.YtfkdlepemiepdaaFront3
namespace Go.Proofs.Ytfkdlepemiepdaa
open Go Go.Lt Go.RowKit
set_option linter.unusedVariables false
set_option linter.unusedSimpArgs false

theorem pTo_one {vals prio L : List Int} {v0 : Int} (h0 : L[0]? = some v0) (hL : ∀ v ∈ L, 1 ≤ v) : ∀ k, k ≤ L.length → (pTo vals prio L k).1 = 0 → (k = 0 ∧ (pTo vals prio L k).2 = 0) ∨ (pTo vals prio L k).2 = v0
  | 0, _, _ => .inl ⟨rfl, rfl⟩
  | k + 1, h, hz => by
    obtain ⟨v, hv⟩ := getI L (show k < L.length by omega)
    have ih := pTo_one (vals := vals) (prio := prio) h0 hL k (by omega)
    have hv1 := hL v (List.mem_of_getElem? hv)
    have hv0 := hL v0 (List.mem_of_getElem? h0)
    rw [pTo_succ hv] at hz ⊢
    generalize pTo vals prio L k = s at ih hz ⊢
    unfold pstep at hz ⊢
    by_cases h1 : lit3 vals (2 * v) = 1
    · rw [if_pos h1] at hz ⊢
      rcases ih hz with ⟨hk, h2⟩ | h2
      · subst hk
        rw [h0] at hv; cases hv
        exact .inr (if_pos h2)
      · exact .inr ((if_neg (show ¬ s.2 = 0 by omega)).trans h2)
    · rw [if_neg h1] at hz ⊢
      by_cases h2 : s.1 = 0 ∨ prioOf prio s.1 < prioOf prio v
      · simp only [if_pos h2] at hz; omega
      · simp only [if_neg h2] at hz; exact absurd (.inl hz) h2
noncomputable def mostOf (prio : List Int) (z : Int) : Int := if z = 0 then 0 else prioOf prio z

set_option maxHeartbeats 8000000 in
theorem ref23_Pick (ra rb rp : Option Addr) (cap cb cp : Nat) (n : List (Int × Int)) (vals prio : List Int) (w : World) (hg : GoodNet n) (hn : n.length ≤ 1048576) (R : Row 2 encN w ra n) (Rb : Row 1 encI w rb vals) (Rp : Row 1 encI w rp prio) :
    Pure Try.prog 22 [.slice ra n.length cap, .slice rb vals.length cb, .slice rp prio.length cp] w (.int .i64 (pick n vals prio)) := by
  have hpl := Rp.len
  refine Spec.of _ Try.func22 rfl Try.ntmps22 (by kernel_rfl) rfl ?_
  repeat' (first
    | ((show WL _ _ _ (⟨_, .call ⟨.value (.func 25), _, _⟩, _, _, _, _⟩ :: _) _ _ _); apply WL.call; exact rfl; exact rfl; exact rfl; exact rfl; exact ref23_Open ra rb cap cb n vals _ (R.ext (by (exact extA))) (Rb.ext (by (exact extA))) hn; rintro v' w' ⟨hx, a', cap', rfl, hO⟩)
    | (show WL _ _ _ _ _ _ _; first | apply WL.nil | (apply WL.pev tOk; exact rfl; exact rfl; exact rfl) | (apply WL.load tOk; exact rfl; exact rfl; exact rfl; exact rfl; exact rfl; (first | assumption | (focus (apply Ext.cell; rotate_left; assumption; (exact extA); done)))) | (apply WL.index tOk; exact rfl; exact rfl; exact rfl; exact rfl; exact rfl; exact rfl; exact rfl; exact rfl; assumption; (exact extA); exact rfl; omega; assumption; intro b off h; have hcc := h; first | (obtain ⟨h1, h2, h3, h4, h5, h6, _⟩ := h) | (obtain ⟨h1, h2, h3, _⟩ := h) | (obtain ⟨h1, h2, _⟩ := h) | (obtain ⟨h1, _⟩ := h)) | (apply WL.add; exact rfl; exact rfl; exact rfl; exact rfl; omega) | (apply WL.sub; exact rfl; exact rfl; exact rfl; exact rfl; omega) | (apply WL.mul; exact rfl; exact rfl; exact rfl; exact rfl; omega) | (apply WL.quo; exact rfl; exact rfl; exact rfl; exact rfl; omega) | (apply WL.rem; exact rfl; exact rfl; exact rfl; exact rfl; omega) | (apply WL.loadA tOk; exact rfl; exact rfl; exact rfl; exact rfl; exact rfl; (first | assumption | (focus (apply Cells.ext; rotate_left; assumption; (exact extA); done))); exact rfl) | (apply WL.guardF; exact rfl; exact rfl) | (apply WL.gD; exact rfl; exact rfl; all_goals intro _) | (apply WL.gN; exact rfl; exact rfl; all_goals intro _) | (apply WL.gB; exact rfl; exact rfl; all_goals intro _))
    | (show Z _ _ _ _ _; first | apply Z.tail | apply Z.then_normal | apply Z.block_normal | apply Z.then_exit | apply Z.block_exit | apply Z.then_ret | apply Z.block_ret | (apply Z.block_other; exact rfl))
    | (show W _ _ _ _ _ _; first | apply W.seq | apply W.region | apply W.block | apply W.skip | apply W.ret | apply W.exit | (apply W.condT; exact rfl) | (apply W.condF; exact rfl) | (apply W.condD; exact rfl; all_goals intro _) | (apply W.condN; exact rfl; all_goals intro _) | (apply W.condB; exact rfl; all_goals intro _)))
  have hX0 : Ext w w' := (by (exact extA))
  have ROp := Own.row encI_ok hO
  have hon : (opens n vals).length ≤ n.length := opTo_len n vals n.length (Nat.le_refl _)
  refine W.loop1 (opens n vals).length (fun k => k ≤ (opens n vals).length) (fun k => [(0, .slice ra n.length cap), (1, .slice rb vals.length cb), (2, .slice rp prio.length cp), (7, .slice a' (opens n vals).length cap'), (8, .int .i64 (pTo vals prio (opens n vals) k).1), (9, .int .i64 (mostOf prio (pTo vals prio (opens n vals) k).1)), (10, .int .i64 k)]) (by omega) (fun k h => h) ⟨rfl, rfl, rfl, rfl, rfl, by rw [show mostOf prio (pTo vals prio (opens n vals) 0).1 = 0 from if_pos rfl]; exact rfl, rfl, trivial⟩ ?_
  rintro k hk
  have hmem := pTo_mem vals prio (opens n vals) k hk
  by_cases hlt : k < (opens n vals).length
  · obtain ⟨v, hv⟩ := getI (opens n vals) hlt
    obtain ⟨hv1, hv2, x, hxn, ho⟩ := opens_mem (List.mem_of_getElem? hv)
    have h01 : lit3 vals (2 * v) = 0 ∨ lit3 vals (2 * v) = 1 := by have := ho.2; omega
    have hs := pTo_succ (vals := vals) (prio := prio) hv
    have hkl : (k : Int) < ((opens n vals).length : Int) := by omega
    have hvk : (opens n vals)[((k : Nat) : Int).toNat]? = some v := by rw [Int.toNat_natCast]; exact hv
    have hmv : mostOf prio v = prioOf prio v := if_neg (by omega)
    generalize pTo vals prio (opens n vals) k = s at hs hmem ⊢
    unfold pstep at hs
    have hpv : ∃ z, z = prioOf prio v ∧ ((v < prio.length ∧ prio[v.toNat]? = some z) ∨ (¬ v < prio.length ∧ z = 0)) := by
      by_cases h : v < prio.length
      · obtain ⟨z, hz⟩ := getI prio (show v.toNat < prio.length by omega)
        exact ⟨z, by rw [prioOf, if_pos h, getD_of hz], .inl ⟨h, hz⟩⟩
      · exact ⟨0, by rw [prioOf, if_neg h], .inr ⟨h, rfl⟩⟩
    obtain ⟨z, hzp, hzc⟩ := hpv
    have hX1 : Ext w w' := hX0
    rcases h01 with q1 | q1
    · rw [if_neg (by omega)] at hs
      by_cases q2 : s.1 = 0
      · rw [if_pos (.inl q2)] at hs
        have hm1 : mostOf prio (pTo vals prio (opens n vals) (k + 1)).1 = z := by rw [hs, hzp]; exact hmv
        rcases hzc with ⟨qp, hz⟩ | ⟨qp, rfl⟩
        all_goals (
          repeat' (first
            | ((show WL _ _ _ (⟨_, .call ⟨.value (.func 26), _, _⟩, _, _, _, _⟩ :: _) _ _ _); apply WL.callS; exact rfl; exact rfl; exact rfl; exact rfl; exact ref_Lit rb cb vals (2 * v) _ (Rb.ext hX0))
            | (apply WL.gT; exact rfl; exact rfl; (focus (first | exact dec_true q1 | exact dec_true q2 | exact dec_true hkl | exact dec_true qp | exact dec_false qp; done)))
            | (apply WL.gF; exact rfl; exact rfl; (focus (first | exact dec_true q1 | exact dec_true q2 | exact dec_true hkl | exact dec_true qp | exact dec_false qp; done)))
            | (apply W.condKT; exact rfl; (focus (first | exact dec_true q1 | exact dec_true q2 | exact dec_true hkl | exact dec_true qp | exact dec_false qp; done)))
            | (apply W.condKF; exact rfl; (focus (first | exact dec_true q1 | exact dec_true q2 | exact dec_true hkl | exact dec_true qp | exact dec_false qp; done)))
            | (show WL _ _ _ _ _ _ _; first | apply WL.nil | (apply WL.pev tOk; exact rfl; exact rfl; exact rfl) | (apply WL.load tOk; exact rfl; exact rfl; exact rfl; exact rfl; exact rfl; (first | assumption | (focus (apply Ext.cell; rotate_left; assumption; (exact extA); done)))) | (apply WL.index tOk; exact rfl; exact rfl; exact rfl; exact rfl; exact rfl; exact rfl; exact rfl; exact rfl; assumption; (exact extA); exact rfl; omega; assumption; intro b off h; have hcc := h; first | (obtain ⟨h1, h2, h3, h4, h5, h6, _⟩ := h) | (obtain ⟨h1, h2, h3, _⟩ := h) | (obtain ⟨h1, h2, _⟩ := h) | (obtain ⟨h1, _⟩ := h)) | (apply WL.add; exact rfl; exact rfl; exact rfl; exact rfl; omega) | (apply WL.sub; exact rfl; exact rfl; exact rfl; exact rfl; omega) | (apply WL.mul; exact rfl; exact rfl; exact rfl; exact rfl; omega) | (apply WL.quo; exact rfl; exact rfl; exact rfl; exact rfl; omega) | (apply WL.rem; exact rfl; exact rfl; exact rfl; exact rfl; omega) | (apply WL.loadA tOk; exact rfl; exact rfl; exact rfl; exact rfl; exact rfl; (first | assumption | (focus (apply Cells.ext; rotate_left; assumption; (exact extA); done))); exact rfl) | (apply WL.guardF; exact rfl; exact rfl) | (apply WL.gD; exact rfl; exact rfl; all_goals intro _) | (apply WL.gN; exact rfl; exact rfl; all_goals intro _) | (apply WL.gB; exact rfl; exact rfl; all_goals intro _))
            | (show Z _ _ _ _ _; first | apply Z.tail | apply Z.then_normal | apply Z.block_normal | apply Z.then_exit | apply Z.block_exit | apply Z.then_ret | apply Z.block_ret | (apply Z.block_other; exact rfl))
            | (show W _ _ _ _ _ _; first | apply W.seq | apply W.region | apply W.block | apply W.skip | apply W.ret | apply W.exit | (apply W.condT; exact rfl) | (apply W.condF; exact rfl) | (apply W.condD; exact rfl; all_goals intro _) | (apply W.condN; exact rfl; all_goals intro _) | (apply W.condB; exact rfl; all_goals intro _)))
          exact Z.again1 (by omega) (by repeat' first | exact trivial | (refine And.intro ?_ ?_) | exact rfl | (rw [hm1]; exact rfl) | (rw [hs]; exact rfl)))
      · have hmo : mostOf prio s.1 = prioOf prio s.1 := if_neg q2
        by_cases q3 : prioOf prio s.1 < prioOf prio v
        · have q4 : mostOf prio s.1 < z := by rw [hmo, hzp]; exact q3
          rw [if_pos (.inr q3)] at hs
          have hm1 : mostOf prio (pTo vals prio (opens n vals) (k + 1)).1 = z := by rw [hs, hzp]; exact hmv
          rcases hzc with ⟨qp, hz⟩ | ⟨qp, rfl⟩
          all_goals (
            repeat' (first
              | ((show WL _ _ _ (⟨_, .call ⟨.value (.func 26), _, _⟩, _, _, _, _⟩ :: _) _ _ _); apply WL.callS; exact rfl; exact rfl; exact rfl; exact rfl; exact ref_Lit rb cb vals (2 * v) _ (Rb.ext hX0))
              | (apply WL.gT; exact rfl; exact rfl; (focus (first | exact dec_true q1 | exact dec_false q2 | exact dec_true q4 | exact dec_true hkl | exact dec_true qp | exact dec_false qp; done)))
              | (apply WL.gF; exact rfl; exact rfl; (focus (first | exact dec_true q1 | exact dec_false q2 | exact dec_true q4 | exact dec_true hkl | exact dec_true qp | exact dec_false qp; done)))
              | (apply W.condKT; exact rfl; (focus (first | exact dec_true q1 | exact dec_false q2 | exact dec_true q4 | exact dec_true hkl | exact dec_true qp | exact dec_false qp; done)))
              | (apply W.condKF; exact rfl; (focus (first | exact dec_true q1 | exact dec_false q2 | exact dec_true q4 | exact dec_true hkl | exact dec_true qp | exact dec_false qp; done)))
              | (show WL _ _ _ _ _ _ _; first | apply WL.nil | (apply WL.pev tOk; exact rfl; exact rfl; exact rfl) | (apply WL.load tOk; exact rfl; exact rfl; exact rfl; exact rfl; exact rfl; (first | assumption | (focus (apply Ext.cell; rotate_left; assumption; (exact extA); done)))) | (apply WL.index tOk; exact rfl; exact rfl; exact rfl; exact rfl; exact rfl; exact rfl; exact rfl; exact rfl; assumption; (exact extA); exact rfl; omega; assumption; intro b off h; have hcc := h; first | (obtain ⟨h1, h2, h3, h4, h5, h6, _⟩ := h) | (obtain ⟨h1, h2, h3, _⟩ := h) | (obtain ⟨h1, h2, _⟩ := h) | (obtain ⟨h1, _⟩ := h)) | (apply WL.add; exact rfl; exact rfl; exact rfl; exact rfl; omega) | (apply WL.sub; exact rfl; exact rfl; exact rfl; exact rfl; omega) | (apply WL.mul; exact rfl; exact rfl; exact rfl; exact rfl; omega) | (apply WL.quo; exact rfl; exact rfl; exact rfl; exact rfl; omega) | (apply WL.rem; exact rfl; exact rfl; exact rfl; exact rfl; omega) | (apply WL.loadA tOk; exact rfl; exact rfl; exact rfl; exact rfl; exact rfl; (first | assumption | (focus (apply Cells.ext; rotate_left; assumption; (exact extA); done))); exact rfl) | (apply WL.guardF; exact rfl; exact rfl) | (apply WL.gD; exact rfl; exact rfl; all_goals intro _) | (apply WL.gN; exact rfl; exact rfl; all_goals intro _) | (apply WL.gB; exact rfl; exact rfl; all_goals intro _))
              | (show Z _ _ _ _ _; first | apply Z.tail | apply Z.then_normal | apply Z.block_normal | apply Z.then_exit | apply Z.block_exit | apply Z.then_ret | apply Z.block_ret | (apply Z.block_other; exact rfl))
              | (show W _ _ _ _ _ _; first | apply W.seq | apply W.region | apply W.block | apply W.skip | apply W.ret | apply W.exit | (apply W.condT; exact rfl) | (apply W.condF; exact rfl) | (apply W.condD; exact rfl; all_goals intro _) | (apply W.condN; exact rfl; all_goals intro _) | (apply W.condB; exact rfl; all_goals intro _)))
            exact Z.again1 (by omega) (by repeat' first | exact trivial | (refine And.intro ?_ ?_) | exact rfl | (rw [hm1]; exact rfl) | (rw [hs]; exact rfl)))
        · have q4 : ¬ mostOf prio s.1 < z := by rw [hmo, hzp]; exact q3
          rw [if_neg (fun h => h.elim q2 q3)] at hs
          rcases hzc with ⟨qp, hz⟩ | ⟨qp, rfl⟩
          all_goals (
            repeat' (first
              | ((show WL _ _ _ (⟨_, .call ⟨.value (.func 26), _, _⟩, _, _, _, _⟩ :: _) _ _ _); apply WL.callS; exact rfl; exact rfl; exact rfl; exact rfl; exact ref_Lit rb cb vals (2 * v) _ (Rb.ext hX0))
              | (apply WL.gT; exact rfl; exact rfl; (focus (first | exact dec_true q1 | exact dec_false q2 | exact dec_false q4 | exact dec_true hkl | exact dec_true qp | exact dec_false qp; done)))
              | (apply WL.gF; exact rfl; exact rfl; (focus (first | exact dec_true q1 | exact dec_false q2 | exact dec_false q4 | exact dec_true hkl | exact dec_true qp | exact dec_false qp; done)))
              | (apply W.condKT; exact rfl; (focus (first | exact dec_true q1 | exact dec_false q2 | exact dec_false q4 | exact dec_true hkl | exact dec_true qp | exact dec_false qp; done)))
              | (apply W.condKF; exact rfl; (focus (first | exact dec_true q1 | exact dec_false q2 | exact dec_false q4 | exact dec_true hkl | exact dec_true qp | exact dec_false qp; done)))
              | (show WL _ _ _ _ _ _ _; first | apply WL.nil | (apply WL.pev tOk; exact rfl; exact rfl; exact rfl) | (apply WL.load tOk; exact rfl; exact rfl; exact rfl; exact rfl; exact rfl; (first | assumption | (focus (apply Ext.cell; rotate_left; assumption; (exact extA); done)))) | (apply WL.index tOk; exact rfl; exact rfl; exact rfl; exact rfl; exact rfl; exact rfl; exact rfl; exact rfl; assumption; (exact extA); exact rfl; omega; assumption; intro b off h; have hcc := h; first | (obtain ⟨h1, h2, h3, h4, h5, h6, _⟩ := h) | (obtain ⟨h1, h2, h3, _⟩ := h) | (obtain ⟨h1, h2, _⟩ := h) | (obtain ⟨h1, _⟩ := h)) | (apply WL.add; exact rfl; exact rfl; exact rfl; exact rfl; omega) | (apply WL.sub; exact rfl; exact rfl; exact rfl; exact rfl; omega) | (apply WL.mul; exact rfl; exact rfl; exact rfl; exact rfl; omega) | (apply WL.quo; exact rfl; exact rfl; exact rfl; exact rfl; omega) | (apply WL.rem; exact rfl; exact rfl; exact rfl; exact rfl; omega) | (apply WL.loadA tOk; exact rfl; exact rfl; exact rfl; exact rfl; exact rfl; (first | assumption | (focus (apply Cells.ext; rotate_left; assumption; (exact extA); done))); exact rfl) | (apply WL.guardF; exact rfl; exact rfl) | (apply WL.gD; exact rfl; exact rfl; all_goals intro _) | (apply WL.gN; exact rfl; exact rfl; all_goals intro _) | (apply WL.gB; exact rfl; exact rfl; all_goals intro _))
              | (show Z _ _ _ _ _; first | apply Z.tail | apply Z.then_normal | apply Z.block_normal | apply Z.then_exit | apply Z.block_exit | apply Z.then_ret | apply Z.block_ret | (apply Z.block_other; exact rfl))
              | (show W _ _ _ _ _ _; first | apply W.seq | apply W.region | apply W.block | apply W.skip | apply W.ret | apply W.exit | (apply W.condT; exact rfl) | (apply W.condF; exact rfl) | (apply W.condD; exact rfl; all_goals intro _) | (apply W.condN; exact rfl; all_goals intro _) | (apply W.condB; exact rfl; all_goals intro _)))
            exact Z.again1 (by omega) (by repeat' first | exact trivial | (refine And.intro ?_ ?_) | exact rfl | (rw [hs]; exact rfl)))
    · have q0 : ¬ lit3 vals (2 * v) = 0 := by omega
      rw [if_pos q1] at hs
      rcases hzc with ⟨qp, hz⟩ | ⟨qp, rfl⟩
      all_goals (
        repeat' (first
          | ((show WL _ _ _ (⟨_, .call ⟨.value (.func 26), _, _⟩, _, _, _, _⟩ :: _) _ _ _); apply WL.callS; exact rfl; exact rfl; exact rfl; exact rfl; exact ref_Lit rb cb vals (2 * v) _ (Rb.ext hX0))
          | (apply WL.gT; exact rfl; exact rfl; (focus (first | exact dec_false q0 | exact dec_true hkl | exact dec_true qp | exact dec_false qp; done)))
          | (apply WL.gF; exact rfl; exact rfl; (focus (first | exact dec_false q0 | exact dec_true hkl | exact dec_true qp | exact dec_false qp; done)))
          | (apply W.condKT; exact rfl; (focus (first | exact dec_false q0 | exact dec_true hkl | exact dec_true qp | exact dec_false qp; done)))
          | (apply W.condKF; exact rfl; (focus (first | exact dec_false q0 | exact dec_true hkl | exact dec_true qp | exact dec_false qp; done)))
          | (show WL _ _ _ _ _ _ _; first | apply WL.nil | (apply WL.pev tOk; exact rfl; exact rfl; exact rfl) | (apply WL.load tOk; exact rfl; exact rfl; exact rfl; exact rfl; exact rfl; (first | assumption | (focus (apply Ext.cell; rotate_left; assumption; (exact extA); done)))) | (apply WL.index tOk; exact rfl; exact rfl; exact rfl; exact rfl; exact rfl; exact rfl; exact rfl; exact rfl; assumption; (exact extA); exact rfl; omega; assumption; intro b off h; have hcc := h; first | (obtain ⟨h1, h2, h3, h4, h5, h6, _⟩ := h) | (obtain ⟨h1, h2, h3, _⟩ := h) | (obtain ⟨h1, h2, _⟩ := h) | (obtain ⟨h1, _⟩ := h)) | (apply WL.add; exact rfl; exact rfl; exact rfl; exact rfl; omega) | (apply WL.sub; exact rfl; exact rfl; exact rfl; exact rfl; omega) | (apply WL.mul; exact rfl; exact rfl; exact rfl; exact rfl; omega) | (apply WL.quo; exact rfl; exact rfl; exact rfl; exact rfl; omega) | (apply WL.rem; exact rfl; exact rfl; exact rfl; exact rfl; omega) | (apply WL.loadA tOk; exact rfl; exact rfl; exact rfl; exact rfl; exact rfl; (first | assumption | (focus (apply Cells.ext; rotate_left; assumption; (exact extA); done))); exact rfl) | (apply WL.guardF; exact rfl; exact rfl) | (apply WL.gD; exact rfl; exact rfl; all_goals intro _) | (apply WL.gN; exact rfl; exact rfl; all_goals intro _) | (apply WL.gB; exact rfl; exact rfl; all_goals intro _))
          | (show Z _ _ _ _ _; first | apply Z.tail | apply Z.then_normal | apply Z.block_normal | apply Z.then_exit | apply Z.block_exit | apply Z.then_ret | apply Z.block_ret | (apply Z.block_other; exact rfl))
          | (show W _ _ _ _ _ _; first | apply W.seq | apply W.region | apply W.block | apply W.skip | apply W.ret | apply W.exit | (apply W.condT; exact rfl) | (apply W.condF; exact rfl) | (apply W.condD; exact rfl; all_goals intro _) | (apply W.condN; exact rfl; all_goals intro _) | (apply W.condB; exact rfl; all_goals intro _)))
        exact Z.again1 (by omega) (by repeat' first | exact trivial | (refine And.intro ?_ ?_) | exact rfl | (rw [hs]; exact rfl)))
  · obtain rfl : k = (opens n vals).length := by omega
    have hpk : pick n vals prio = if 0 < (pTo vals prio (opens n vals) (opens n vals).length).1 then trace n vals (Lt.xor1 (freeV n vals (pTo vals prio (opens n vals) (opens n vals).length).1)) else if 0 < (pTo vals prio (opens n vals) (opens n vals).length).2 then trace n vals (freeV n vals (pTo vals prio (opens n vals) (opens n vals).length).2) else 0 := rfl
    have hkl : ¬ (((opens n vals).length : Int) < ((opens n vals).length : Int)) := by omega
    have fr : ∀ z, z ∈ opens n vals → ∃ x, n[(z - 1).toNat]? = some x ∧ freeV n vals z = freeL vals x ∧ 0 ≤ freeL vals x ∧ freeL vals x ≤ 2097152 ∧ 1 ≤ z ∧ z ≤ 1048576 := by
      intro z hm
      obtain ⟨z1, z2, x, hx, ho⟩ := opens_mem hm
      have hf := freeL_le hg hx (by have := ho.1; omega) vals
      exact ⟨x, hx, by rw [freeV, getD_of hx], hf.1, by omega, by omega, by omega⟩
    by_cases hL : (opens n vals).length = 0
    · have hnil : opens n vals = [] := List.eq_nil_of_length_eq_zero hL
      have h0 : (pTo vals prio (opens n vals) (opens n vals).length) = (0, 0) := by rw [hnil]; rfl
      rw [h0] at hpk ⊢
      rw [hpk]
      repeat' (first
        | (apply WL.gT; exact rfl; exact rfl; (focus (first | exact dec_false hkl | exact dec_false (by omega) | exact dec_true (by omega); done)))
        | (apply WL.gF; exact rfl; exact rfl; (focus (first | exact dec_false hkl | exact dec_false (by omega) | exact dec_true (by omega); done)))
        | (apply W.condKT; exact rfl; (focus (first | exact dec_false hkl | exact dec_false (by omega) | exact dec_true (by omega); done)))
        | (apply W.condKF; exact rfl; (focus (first | exact dec_false hkl | exact dec_false (by omega) | exact dec_true (by omega); done)))
        | (show WL _ _ _ _ _ _ _; first | apply WL.nil | (apply WL.pev tOk; exact rfl; exact rfl; exact rfl) | (apply WL.load tOk; exact rfl; exact rfl; exact rfl; exact rfl; exact rfl; (first | assumption | (focus (apply Ext.cell; rotate_left; assumption; (exact extA); done)))) | (apply WL.index tOk; exact rfl; exact rfl; exact rfl; exact rfl; exact rfl; exact rfl; exact rfl; exact rfl; assumption; (exact extA); exact rfl; omega; assumption; intro b off h; have hcc := h; first | (obtain ⟨h1, h2, h3, h4, h5, h6, _⟩ := h) | (obtain ⟨h1, h2, h3, _⟩ := h) | (obtain ⟨h1, h2, _⟩ := h) | (obtain ⟨h1, _⟩ := h)) | (apply WL.add; exact rfl; exact rfl; exact rfl; exact rfl; omega) | (apply WL.sub; exact rfl; exact rfl; exact rfl; exact rfl; omega) | (apply WL.mul; exact rfl; exact rfl; exact rfl; exact rfl; omega) | (apply WL.quo; exact rfl; exact rfl; exact rfl; exact rfl; omega) | (apply WL.rem; exact rfl; exact rfl; exact rfl; exact rfl; omega) | (apply WL.loadA tOk; exact rfl; exact rfl; exact rfl; exact rfl; exact rfl; (first | assumption | (focus (apply Cells.ext; rotate_left; assumption; (exact extA); done))); exact rfl) | (apply WL.guardF; exact rfl; exact rfl) | (apply WL.gD; exact rfl; exact rfl; all_goals intro _) | (apply WL.gN; exact rfl; exact rfl; all_goals intro _) | (apply WL.gB; exact rfl; exact rfl; all_goals intro _))
        | (show Z _ _ _ _ _; first | apply Z.tail | apply Z.then_normal | apply Z.block_normal | apply Z.then_exit | apply Z.block_exit | apply Z.then_ret | apply Z.block_ret | (apply Z.block_other; exact rfl))
        | (show W _ _ _ _ _ _; first | apply W.seq | apply W.region | apply W.block | apply W.skip | apply W.ret | apply W.exit | (apply W.condT; exact rfl) | (apply W.condF; exact rfl) | (apply W.condD; exact rfl; all_goals intro _) | (apply W.condN; exact rfl; all_goals intro _) | (apply W.condB; exact rfl; all_goals intro _)))
      exact Z.body1 Try.results22 rfl fun m => ⟨rfl, Ext.at (by (exact extA)) m⟩
    · obtain ⟨v0, hv0⟩ := getI (opens n vals) (show 0 < (opens n vals).length by omega)
      have hone := pTo_one (vals := vals) (prio := prio) hv0 (fun v hv => (opens_mem hv).1) _ (Nat.le_refl _)
      have hv0k : (opens n vals)[(0 : Int).toNat]? = some v0 := hv0
      generalize pTo vals prio (opens n vals) (opens n vals).length = s at hpk hmem hone ⊢
      by_cases q1 : 0 < s.1
      · obtain ⟨x, hx, hfx, f0, f1, f2, f3⟩ := fr s.1 (hmem.1.resolve_left (by omega))
        have hb1 : Lt.xor1 (freeL vals x) ≤ 9223372036854775807 := by unfold Lt.xor1; split <;> omega
        rw [if_pos q1, hfx] at hpk
        rw [hpk]
        repeat' (first
          | ((show WL _ _ _ (⟨_, .call ⟨.value (.func 83), _, _⟩, _, _, _, _⟩ :: _) _ _ _); apply WL.callS; exact rfl; exact rfl; exact rfl; exact rfl; exact ref23_free ra rb cap cb n vals s.1 x _ (R.ext (by (exact extA))) (Rb.ext (by (exact extA))) (by omega) hx)
          | ((show WL _ _ _ (⟨_, .call ⟨.value (.func 84), _, _⟩, _, _, _, _⟩ :: _) _ _ _); apply WL.callS; exact rfl; exact rfl; exact rfl; exact rfl; exact ref02_Not _ _ (by omega))
          | (apply WL.gT; exact rfl; exact rfl; (focus (first | exact dec_false hkl | exact dec_true q1; done)))
          | (apply WL.gF; exact rfl; exact rfl; (focus (first | exact dec_false hkl | exact dec_true q1; done)))
          | (apply W.condKT; exact rfl; (focus (first | exact dec_false hkl | exact dec_true q1; done)))
          | (apply W.condKF; exact rfl; (focus (first | exact dec_false hkl | exact dec_true q1; done)))
          | ((show WL _ _ _ (⟨_, .call ⟨.value (.func 21), _, _⟩, _, _, _, _⟩ :: _) _ _ _); apply WL.callS; exact rfl; exact rfl; exact rfl; exact rfl; exact ref23_Trace ra rb cap cb n vals (Lt.xor1 (freeL vals x)) _ hg hn hb1 (R.ext (by (exact extA))) (Rb.ext (by (exact extA))))
          | (show WL _ _ _ _ _ _ _; first | apply WL.nil | (apply WL.pev tOk; exact rfl; exact rfl; exact rfl) | (apply WL.load tOk; exact rfl; exact rfl; exact rfl; exact rfl; exact rfl; (first | assumption | (focus (apply Ext.cell; rotate_left; assumption; (exact extA); done)))) | (apply WL.index tOk; exact rfl; exact rfl; exact rfl; exact rfl; exact rfl; exact rfl; exact rfl; exact rfl; assumption; (exact extA); exact rfl; omega; assumption; intro b off h; have hcc := h; first | (obtain ⟨h1, h2, h3, h4, h5, h6, _⟩ := h) | (obtain ⟨h1, h2, h3, _⟩ := h) | (obtain ⟨h1, h2, _⟩ := h) | (obtain ⟨h1, _⟩ := h)) | (apply WL.add; exact rfl; exact rfl; exact rfl; exact rfl; omega) | (apply WL.sub; exact rfl; exact rfl; exact rfl; exact rfl; omega) | (apply WL.mul; exact rfl; exact rfl; exact rfl; exact rfl; omega) | (apply WL.quo; exact rfl; exact rfl; exact rfl; exact rfl; omega) | (apply WL.rem; exact rfl; exact rfl; exact rfl; exact rfl; omega) | (apply WL.loadA tOk; exact rfl; exact rfl; exact rfl; exact rfl; exact rfl; (first | assumption | (focus (apply Cells.ext; rotate_left; assumption; (exact extA); done))); exact rfl) | (apply WL.guardF; exact rfl; exact rfl) | (apply WL.gD; exact rfl; exact rfl; all_goals intro _) | (apply WL.gN; exact rfl; exact rfl; all_goals intro _) | (apply WL.gB; exact rfl; exact rfl; all_goals intro _))
          | (show Z _ _ _ _ _; first | apply Z.tail | apply Z.then_normal | apply Z.block_normal | apply Z.then_exit | apply Z.block_exit | apply Z.then_ret | apply Z.block_ret | (apply Z.block_other; exact rfl))
          | (show W _ _ _ _ _ _; first | apply W.seq | apply W.region | apply W.block | apply W.skip | apply W.ret | apply W.exit | (apply W.condT; exact rfl) | (apply W.condF; exact rfl) | (apply W.condD; exact rfl; all_goals intro _) | (apply W.condN; exact rfl; all_goals intro _) | (apply W.condB; exact rfl; all_goals intro _)))
        exact Z.body1 Try.results22 rfl fun m => ⟨rfl, Ext.at (by (exact extA)) m⟩
      · have hz1 : s.1 = 0 := by
          rcases hmem.1 with h | h
          · exact h
          · have := (opens_mem h).1; omega
        have h2 : s.2 = v0 := (hone hz1).resolve_left (fun h => hL h.1)
        obtain ⟨x, hx, hfx, f0, f1, f2, f3⟩ := fr v0 (List.mem_of_getElem? hv0)
        have hb1 : freeL vals x ≤ 9223372036854775807 := by omega
        rw [if_neg q1, if_pos (by omega), h2, hfx] at hpk
        rw [hpk]
        have qL : 0 < ((opens n vals).length : Int) := by omega
        repeat' (first
          | ((show WL _ _ _ (⟨_, .call ⟨.value (.func 83), _, _⟩, _, _, _, _⟩ :: _) _ _ _); apply WL.callS; exact rfl; exact rfl; exact rfl; exact rfl; exact ref23_free ra rb cap cb n vals v0 x _ (R.ext (by (exact extA))) (Rb.ext (by (exact extA))) (by omega) hx)
          | (apply WL.gT; exact rfl; exact rfl; (focus (first | exact dec_false hkl | exact dec_false q1 | exact dec_true qL; done)))
          | (apply WL.gF; exact rfl; exact rfl; (focus (first | exact dec_false hkl | exact dec_false q1 | exact dec_true qL; done)))
          | (apply W.condKT; exact rfl; (focus (first | exact dec_false hkl | exact dec_false q1 | exact dec_true qL; done)))
          | (apply W.condKF; exact rfl; (focus (first | exact dec_false hkl | exact dec_false q1 | exact dec_true qL; done)))
          | ((show WL _ _ _ (⟨_, .call ⟨.value (.func 21), _, _⟩, _, _, _, _⟩ :: _) _ _ _); apply WL.callS; exact rfl; exact rfl; exact rfl; exact rfl; exact ref23_Trace ra rb cap cb n vals (freeL vals x) _ hg hn hb1 (R.ext (by (exact extA))) (Rb.ext (by (exact extA))))
          | (show WL _ _ _ _ _ _ _; first | apply WL.nil | (apply WL.pev tOk; exact rfl; exact rfl; exact rfl) | (apply WL.load tOk; exact rfl; exact rfl; exact rfl; exact rfl; exact rfl; (first | assumption | (focus (apply Ext.cell; rotate_left; assumption; (exact extA); done)))) | (apply WL.index tOk; exact rfl; exact rfl; exact rfl; exact rfl; exact rfl; exact rfl; exact rfl; exact rfl; assumption; (exact extA); exact rfl; omega; assumption; intro b off h; have hcc := h; first | (obtain ⟨h1, h2, h3, h4, h5, h6, _⟩ := h) | (obtain ⟨h1, h2, h3, _⟩ := h) | (obtain ⟨h1, h2, _⟩ := h) | (obtain ⟨h1, _⟩ := h)) | (apply WL.add; exact rfl; exact rfl; exact rfl; exact rfl; omega) | (apply WL.sub; exact rfl; exact rfl; exact rfl; exact rfl; omega) | (apply WL.mul; exact rfl; exact rfl; exact rfl; exact rfl; omega) | (apply WL.quo; exact rfl; exact rfl; exact rfl; exact rfl; omega) | (apply WL.rem; exact rfl; exact rfl; exact rfl; exact rfl; omega) | (apply WL.loadA tOk; exact rfl; exact rfl; exact rfl; exact rfl; exact rfl; (first | assumption | (focus (apply Cells.ext; rotate_left; assumption; (exact extA); done))); exact rfl) | (apply WL.guardF; exact rfl; exact rfl) | (apply WL.gD; exact rfl; exact rfl; all_goals intro _) | (apply WL.gN; exact rfl; exact rfl; all_goals intro _) | (apply WL.gB; exact rfl; exact rfl; all_goals intro _))
          | (show Z _ _ _ _ _; first | apply Z.tail | apply Z.then_normal | apply Z.block_normal | apply Z.then_exit | apply Z.block_exit | apply Z.then_ret | apply Z.block_ret | (apply Z.block_other; exact rfl))
          | (show W _ _ _ _ _ _; first | apply W.seq | apply W.region | apply W.block | apply W.skip | apply W.ret | apply W.exit | (apply W.condT; exact rfl) | (apply W.condF; exact rfl) | (apply W.condD; exact rfl; all_goals intro _) | (apply W.condN; exact rfl; all_goals intro _) | (apply W.condB; exact rfl; all_goals intro _)))
        exact Z.body1 Try.results22 rfl fun m => ⟨rfl, Ext.at (by (exact extA)) m⟩
end Go.Proofs.Ytfkdlepemiepdaa
