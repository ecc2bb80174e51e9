/- Which input is tried next. No conditions. -/
import Derived.Test.YtfkdlepemiepdaaFront2
namespace Go.Proofs.Ytfkdlepemiepdaa
open Go Go.Lt Go.RowKit
set_option linter.unusedVariables false
set_option linter.unusedSimpArgs false

def prioOf (prio : List Int) (v : Int) : Int := if v < prio.length then prio.getD v.toNat 0 else 0
noncomputable def pstep (vals prio : List Int) (s : Int × Int) (v : Int) : Int × Int :=
  if lit3 vals (2 * v) = 1 then (s.1, if s.2 = 0 then v else s.2) else (if s.1 = 0 ∨ prioOf prio s.1 < prioOf prio v then v else s.1, s.2)
noncomputable def pTo (vals prio L : List Int) (k : Nat) : Int × Int := (L.take k).foldl (pstep vals prio) (0, 0)
theorem pTo_succ {vals prio L : List Int} {k : Nat} {v : Int} (h : L[k]? = some v) : pTo vals prio L (k + 1) = pstep vals prio (pTo vals prio L k) v := by
  unfold pTo; rw [take_succ' h, List.foldl_append]; rfl
theorem opens_mem {n : List (Int × Int)} {vals : List Int} {v : Int} (h : v ∈ opens n vals) : 1 ≤ v ∧ v ≤ n.length ∧ ∃ x, n[(v - 1).toNat]? = some x ∧ openG vals v x := by
  obtain ⟨u, rfl, hu, h1, x, hx, ho⟩ := sel_mem.1 h
  exact ⟨by omega, by omega, x, by rw [show ((u : Int) - 1).toNat = u - 1 by omega]; exact hx, ho⟩
theorem pTo_mem (vals prio L : List Int) : ∀ k, k ≤ L.length → ((pTo vals prio L k).1 = 0 ∨ (pTo vals prio L k).1 ∈ L) ∧ ((pTo vals prio L k).2 = 0 ∨ (pTo vals prio L k).2 ∈ L)
  | 0, _ => ⟨.inl rfl, .inl rfl⟩
  | k + 1, h => by
    obtain ⟨v, hv⟩ := getI L (show k < L.length by omega)
    have ih := pTo_mem vals prio L k (by omega)
    have hm := List.mem_of_getElem? hv
    rw [pTo_succ hv]
    generalize pTo vals prio L k = s at ih
    unfold pstep
    by_cases h1 : lit3 vals (2 * v) = 1
    · rw [if_pos h1]
      refine ⟨ih.1, ?_⟩
      by_cases h2 : s.2 = 0
      · simp only [if_pos h2]; exact .inr hm
      · simp only [if_neg h2]; exact ih.2
    · rw [if_neg h1]
      refine ⟨?_, ih.2⟩
      by_cases h2 : s.1 = 0 ∨ prioOf prio s.1 < prioOf prio v
      · simp only [if_pos h2]; exact .inr hm
      · simp only [if_neg h2]; exact ih.1
noncomputable def freeV (n : List (Int × Int)) (vals : List Int) (v : Int) : Int := freeL vals (n.getD (v - 1).toNat (0, 0))
noncomputable def pick (n : List (Int × Int)) (vals prio : List Int) : Int :=
  let s := pTo vals prio (opens n vals) (opens n vals).length
  if 0 < s.1 then trace n vals (Lt.xor1 (freeV n vals s.1)) else if 0 < s.2 then trace n vals (freeV n vals s.2) else 0

theorem front_Pick1 (rp : Option Addr) (cp g5 : Nat) (prio : List Int) (v : Int) (w : World) (Rp : Row 1 encI w rp prio) (hv : 0 ≤ v) (hc : w.cell? ⟨g5, 0, none⟩ = some (.slice rp prio.length cp)) :
    Still Try.prog 82 ([.int .i64 v] ++ [.pointer (some ⟨g5, 0, none⟩)]) w (.int .i64 (prioOf prio v)) := by
  by_cases h : v < prio.length
  · obtain ⟨z, hz⟩ := getI prio (show v.toNat < prio.length by omega)
    refine Spec.of _ Try.func82 rfl Try.ntmps82 (by kernel_rfl) rfl ?_
    repeat' (first
      | (apply WL.gT; exact rfl; exact rfl; (focus (exact dec_true h; done)))
      | (apply WL.gF; exact rfl; exact rfl; (focus (exact dec_true h; done)))
      | (apply W.condKT; exact rfl; (focus (exact dec_true h; done)))
      | (apply W.condKF; exact rfl; (focus (exact dec_true h; done)))
      | (show WL _ _ _ _ _ _ _; first | apply WL.nil | (apply WL.pev tOk; exact rfl; exact rfl; exact rfl) | (apply WL.load tOk; exact rfl; exact rfl; exact rfl; exact rfl; exact rfl; (first | assumption | (focus (apply Ext.cell; rotate_left; assumption; (exact extA); done)))) | (apply WL.index tOk; exact rfl; exact rfl; exact rfl; exact rfl; exact rfl; exact rfl; exact rfl; exact rfl; assumption; (exact extA); exact rfl; omega; assumption; intro b off h; have hcc := h; first | (obtain ⟨h1, h2, h3, h4, h5, h6, _⟩ := h) | (obtain ⟨h1, h2, h3, _⟩ := h) | (obtain ⟨h1, h2, _⟩ := h) | (obtain ⟨h1, _⟩ := h)) | (apply WL.add; exact rfl; exact rfl; exact rfl; exact rfl; omega) | (apply WL.sub; exact rfl; exact rfl; exact rfl; exact rfl; omega) | (apply WL.mul; exact rfl; exact rfl; exact rfl; exact rfl; omega) | (apply WL.quo; exact rfl; exact rfl; exact rfl; exact rfl; omega) | (apply WL.rem; exact rfl; exact rfl; exact rfl; exact rfl; omega) | (apply WL.loadA tOk; exact rfl; exact rfl; exact rfl; exact rfl; exact rfl; (first | assumption | (focus (apply Cells.ext; rotate_left; assumption; (exact extA); done))); exact rfl) | (apply WL.guardF; exact rfl; exact rfl) | (apply WL.gD; exact rfl; exact rfl; all_goals intro _) | (apply WL.gN; exact rfl; exact rfl; all_goals intro _) | (apply WL.gB; exact rfl; exact rfl; all_goals intro _))
      | (show Z _ _ _ _ _; first | apply Z.tail | apply Z.then_normal | apply Z.block_normal | apply Z.then_exit | apply Z.block_exit | apply Z.then_ret | apply Z.block_ret | (apply Z.block_other; exact rfl))
      | (show W _ _ _ _ _ _; first | apply W.seq | apply W.region | apply W.block | apply W.skip | apply W.ret | apply W.exit | (apply W.condT; exact rfl) | (apply W.condF; exact rfl) | (apply W.condD; exact rfl; all_goals intro _) | (apply W.condN; exact rfl; all_goals intro _) | (apply W.condB; exact rfl; all_goals intro _)))
    exact Z.body1 Try.results82 rfl fun m => ⟨congrArg (Value.int .i64) (by rw [prioOf, if_pos h, getD_of hz]), m, rfl⟩
  · refine Spec.of _ Try.func82 rfl Try.ntmps82 (by kernel_rfl) rfl ?_
    repeat' (first
      | (apply WL.gT; exact rfl; exact rfl; (focus (exact dec_false h; done)))
      | (apply WL.gF; exact rfl; exact rfl; (focus (exact dec_false h; done)))
      | (apply W.condKT; exact rfl; (focus (exact dec_false h; done)))
      | (apply W.condKF; exact rfl; (focus (exact dec_false h; done)))
      | (show WL _ _ _ _ _ _ _; first | apply WL.nil | (apply WL.pev tOk; exact rfl; exact rfl; exact rfl) | (apply WL.load tOk; exact rfl; exact rfl; exact rfl; exact rfl; exact rfl; (first | assumption | (focus (apply Ext.cell; rotate_left; assumption; (exact extA); done)))) | (apply WL.index tOk; exact rfl; exact rfl; exact rfl; exact rfl; exact rfl; exact rfl; exact rfl; exact rfl; assumption; (exact extA); exact rfl; omega; assumption; intro b off h; have hcc := h; first | (obtain ⟨h1, h2, h3, h4, h5, h6, _⟩ := h) | (obtain ⟨h1, h2, h3, _⟩ := h) | (obtain ⟨h1, h2, _⟩ := h) | (obtain ⟨h1, _⟩ := h)) | (apply WL.add; exact rfl; exact rfl; exact rfl; exact rfl; omega) | (apply WL.sub; exact rfl; exact rfl; exact rfl; exact rfl; omega) | (apply WL.mul; exact rfl; exact rfl; exact rfl; exact rfl; omega) | (apply WL.quo; exact rfl; exact rfl; exact rfl; exact rfl; omega) | (apply WL.rem; exact rfl; exact rfl; exact rfl; exact rfl; omega) | (apply WL.loadA tOk; exact rfl; exact rfl; exact rfl; exact rfl; exact rfl; (first | assumption | (focus (apply Cells.ext; rotate_left; assumption; (exact extA); done))); exact rfl) | (apply WL.guardF; exact rfl; exact rfl) | (apply WL.gD; exact rfl; exact rfl; all_goals intro _) | (apply WL.gN; exact rfl; exact rfl; all_goals intro _) | (apply WL.gB; exact rfl; exact rfl; all_goals intro _))
      | (show Z _ _ _ _ _; first | apply Z.tail | apply Z.then_normal | apply Z.block_normal | apply Z.then_exit | apply Z.block_exit | apply Z.then_ret | apply Z.block_ret | (apply Z.block_other; exact rfl))
      | (show W _ _ _ _ _ _; first | apply W.seq | apply W.region | apply W.block | apply W.skip | apply W.ret | apply W.exit | (apply W.condT; exact rfl) | (apply W.condF; exact rfl) | (apply W.condD; exact rfl; all_goals intro _) | (apply W.condN; exact rfl; all_goals intro _) | (apply W.condB; exact rfl; all_goals intro _)))
    exact Z.body1 Try.results82 rfl fun m => ⟨congrArg (Value.int .i64) (by rw [prioOf, if_neg h]), m, rfl⟩

set_option maxHeartbeats 8000000 in
theorem front_Pick (ra rb rp : Option Addr) (cap cb cp : Nat) (n : List (Int × Int)) (vals prio : List Int) (w : World) (hg : GoodNet n) (hn : n.length ≤ 1048576) (R : Row 2 encN w ra n) (Rb : Row 1 encI w rb vals) (Rp : Row 1 encI w rp prio) :
    Pure Try.prog 20 [.slice ra n.length cap, .slice rb vals.length cb, .slice rp prio.length cp] w (.tuple #[.int .i64 (pick n vals prio), .bool (dec (0 < pick n vals prio))]) := by
  have hpl := Rp.len
  refine Spec.of _ Try.func20 rfl Try.ntmps20 (by kernel_rfl) rfl ?_
  repeat' (first
    | (apply WL.box; exact rfl; exact rfl; exact rfl; intro gb w' hb hge hc hx; have hcc := hc; (first | (obtain ⟨h1, h2, h3, _⟩ := hc) | (obtain ⟨h1, h2, _⟩ := hc)))
    | ((show WL _ _ _ (⟨_, .call ⟨.value (.func 24), _, _⟩, _, _, _, _⟩ :: _) _ _ _); apply WL.call; exact rfl; exact rfl; exact rfl; exact rfl; exact front_Open ra rb cap cb n vals _ (R.ext (by (exact extA))) (Rb.ext (by (exact extA))) hn; rintro v' w' ⟨hx, a', cap', rfl, hO⟩)
    | (show WL _ _ _ _ _ _ _; first | apply WL.nil | (apply WL.pev tOk; exact rfl; exact rfl; exact rfl) | (apply WL.load tOk; exact rfl; exact rfl; exact rfl; exact rfl; exact rfl; (first | assumption | (focus (apply Ext.cell; rotate_left; assumption; (exact extA); done)))) | (apply WL.index tOk; exact rfl; exact rfl; exact rfl; exact rfl; exact rfl; exact rfl; exact rfl; exact rfl; assumption; (exact extA); exact rfl; omega; assumption; intro b off h; have hcc := h; first | (obtain ⟨h1, h2, h3, h4, h5, h6, _⟩ := h) | (obtain ⟨h1, h2, h3, _⟩ := h) | (obtain ⟨h1, h2, _⟩ := h) | (obtain ⟨h1, _⟩ := h)) | (apply WL.add; exact rfl; exact rfl; exact rfl; exact rfl; omega) | (apply WL.sub; exact rfl; exact rfl; exact rfl; exact rfl; omega) | (apply WL.mul; exact rfl; exact rfl; exact rfl; exact rfl; omega) | (apply WL.quo; exact rfl; exact rfl; exact rfl; exact rfl; omega) | (apply WL.rem; exact rfl; exact rfl; exact rfl; exact rfl; omega) | (apply WL.loadA tOk; exact rfl; exact rfl; exact rfl; exact rfl; exact rfl; (first | assumption | (focus (apply Cells.ext; rotate_left; assumption; (exact extA); done))); exact rfl) | (apply WL.guardF; exact rfl; exact rfl) | (apply WL.gD; exact rfl; exact rfl; all_goals intro _) | (apply WL.gN; exact rfl; exact rfl; all_goals intro _) | (apply WL.gB; exact rfl; exact rfl; all_goals intro _))
    | (show Z _ _ _ _ _; first | apply Z.tail | apply Z.then_normal | apply Z.block_normal | apply Z.then_exit | apply Z.block_exit | apply Z.then_ret | apply Z.block_ret | (apply Z.block_other; exact rfl))
    | (show W _ _ _ _ _ _; first | apply W.seq | apply W.region | apply W.block | apply W.skip | apply W.ret | apply W.exit | (apply W.condT; exact rfl) | (apply W.condF; exact rfl) | (apply W.condD; exact rfl; all_goals intro _) | (apply W.condN; exact rfl; all_goals intro _) | (apply W.condB; exact rfl; all_goals intro _)))
  have hcg := h1
  have hX0 : Ext w w' := (by (exact extA))
  have ROp := Own.row encI_ok hO
  refine W.loop1 (opens n vals).length (fun k => k ≤ (opens n vals).length) (fun k => [(0, .slice ra n.length cap), (1, .slice rb vals.length cb), (8, .func (.func 82) #[] #[.pointer (some ⟨gb, 0, none⟩)]), (9, .int .i64 (pTo vals prio (opens n vals) k).1), (10, .int .i64 (pTo vals prio (opens n vals) k).2), (16, .slice a' (opens n vals).length cap'), (17, .int .i64 (opens n vals).length), (18, .int .i64 k)]) (by omega) (fun k h => h) ⟨rfl, rfl, rfl, rfl, rfl, rfl, rfl, rfl, trivial⟩ ?_
  rintro k hk
  have hmem := pTo_mem vals prio (opens n vals) k hk
  have hon : (opens n vals).length ≤ n.length := opTo_len n vals n.length (Nat.le_refl _)
  by_cases hlt : k < (opens n vals).length
  · obtain ⟨v, hv⟩ := getI (opens n vals) hlt
    obtain ⟨hv1, hv2, _⟩ := opens_mem (List.mem_of_getElem? hv)
    have hs := pTo_succ (vals := vals) (prio := prio) hv
    have hz0 : 0 ≤ (pTo vals prio (opens n vals) k).1 := by
      rcases hmem.1 with h | h
      · omega
      · have := (opens_mem h).1; omega
    have hkl : (k : Int) < ((opens n vals).length : Int) := by omega
    have hvk : (opens n vals)[((k : Nat) : Int).toNat]? = some v := by rw [Int.toNat_natCast]; exact hv
    have hcg2 : w'.cell? ⟨gb, 0, none⟩ = some (.slice rp prio.length cp) := Ext.cell (by assumption) hcg
    generalize pTo vals prio (opens n vals) k = s at hs hz0 hmem ⊢
    unfold pstep at hs
    by_cases q1 : lit3 vals (2 * v) = 1
    · rw [if_pos q1] at hs
      by_cases q2 : s.2 = 0
      · rw [if_pos q2] at hs
        repeat' (first
          | ((show WL _ _ _ (⟨_, .call ⟨.value (.func 80), _, _⟩, _, _, _, _⟩ :: _) _ _ _); apply WL.callS; exact rfl; exact rfl; exact rfl; exact rfl; exact tri_Lit rb cb vals (2 * v) _ (Rb.ext hX0))
          | (apply WL.gT; exact rfl; exact rfl; (focus (first | exact dec_true q1 | exact dec_true q2 | exact dec_true hkl; done)))
          | (apply WL.gF; exact rfl; exact rfl; (focus (first | exact dec_true q1 | exact dec_true q2 | exact dec_true hkl; done)))
          | (apply W.condKT; exact rfl; (focus (first | exact dec_true q1 | exact dec_true q2 | exact dec_true hkl; done)))
          | (apply W.condKF; exact rfl; (focus (first | exact dec_true q1 | exact dec_true q2 | exact dec_true hkl; done)))
          | (show WL _ _ _ _ _ _ _; first | apply WL.nil | (apply WL.pev tOk; exact rfl; exact rfl; exact rfl) | (apply WL.load tOk; exact rfl; exact rfl; exact rfl; exact rfl; exact rfl; (first | assumption | (focus (apply Ext.cell; rotate_left; assumption; (exact extA); done)))) | (apply WL.index tOk; exact rfl; exact rfl; exact rfl; exact rfl; exact rfl; exact rfl; exact rfl; exact rfl; assumption; (exact extA); exact rfl; omega; assumption; intro b off h; have hcc := h; first | (obtain ⟨h1, h2, h3, h4, h5, h6, _⟩ := h) | (obtain ⟨h1, h2, h3, _⟩ := h) | (obtain ⟨h1, h2, _⟩ := h) | (obtain ⟨h1, _⟩ := h)) | (apply WL.add; exact rfl; exact rfl; exact rfl; exact rfl; omega) | (apply WL.sub; exact rfl; exact rfl; exact rfl; exact rfl; omega) | (apply WL.mul; exact rfl; exact rfl; exact rfl; exact rfl; omega) | (apply WL.quo; exact rfl; exact rfl; exact rfl; exact rfl; omega) | (apply WL.rem; exact rfl; exact rfl; exact rfl; exact rfl; omega) | (apply WL.loadA tOk; exact rfl; exact rfl; exact rfl; exact rfl; exact rfl; (first | assumption | (focus (apply Cells.ext; rotate_left; assumption; (exact extA); done))); exact rfl) | (apply WL.guardF; exact rfl; exact rfl) | (apply WL.gD; exact rfl; exact rfl; all_goals intro _) | (apply WL.gN; exact rfl; exact rfl; all_goals intro _) | (apply WL.gB; exact rfl; exact rfl; all_goals intro _))
          | (show Z _ _ _ _ _; first | apply Z.tail | apply Z.then_normal | apply Z.block_normal | apply Z.then_exit | apply Z.block_exit | apply Z.then_ret | apply Z.block_ret | (apply Z.block_other; exact rfl))
          | (show W _ _ _ _ _ _; first | apply W.seq | apply W.region | apply W.block | apply W.skip | apply W.ret | apply W.exit | (apply W.condT; exact rfl) | (apply W.condF; exact rfl) | (apply W.condD; exact rfl; all_goals intro _) | (apply W.condN; exact rfl; all_goals intro _) | (apply W.condB; exact rfl; all_goals intro _)))
        exact Z.again1 (by omega) (by repeat' first | exact trivial | (refine And.intro ?_ ?_) | exact rfl | (rw [hs]; exact rfl))
      · rw [if_neg q2] at hs
        repeat' (first
          | ((show WL _ _ _ (⟨_, .call ⟨.value (.func 80), _, _⟩, _, _, _, _⟩ :: _) _ _ _); apply WL.callS; exact rfl; exact rfl; exact rfl; exact rfl; exact tri_Lit rb cb vals (2 * v) _ (Rb.ext hX0))
          | (apply WL.gT; exact rfl; exact rfl; (focus (first | exact dec_true q1 | exact dec_false q2 | exact dec_true hkl; done)))
          | (apply WL.gF; exact rfl; exact rfl; (focus (first | exact dec_true q1 | exact dec_false q2 | exact dec_true hkl; done)))
          | (apply W.condKT; exact rfl; (focus (first | exact dec_true q1 | exact dec_false q2 | exact dec_true hkl; done)))
          | (apply W.condKF; exact rfl; (focus (first | exact dec_true q1 | exact dec_false q2 | exact dec_true hkl; done)))
          | (show WL _ _ _ _ _ _ _; first | apply WL.nil | (apply WL.pev tOk; exact rfl; exact rfl; exact rfl) | (apply WL.load tOk; exact rfl; exact rfl; exact rfl; exact rfl; exact rfl; (first | assumption | (focus (apply Ext.cell; rotate_left; assumption; (exact extA); done)))) | (apply WL.index tOk; exact rfl; exact rfl; exact rfl; exact rfl; exact rfl; exact rfl; exact rfl; exact rfl; assumption; (exact extA); exact rfl; omega; assumption; intro b off h; have hcc := h; first | (obtain ⟨h1, h2, h3, h4, h5, h6, _⟩ := h) | (obtain ⟨h1, h2, h3, _⟩ := h) | (obtain ⟨h1, h2, _⟩ := h) | (obtain ⟨h1, _⟩ := h)) | (apply WL.add; exact rfl; exact rfl; exact rfl; exact rfl; omega) | (apply WL.sub; exact rfl; exact rfl; exact rfl; exact rfl; omega) | (apply WL.mul; exact rfl; exact rfl; exact rfl; exact rfl; omega) | (apply WL.quo; exact rfl; exact rfl; exact rfl; exact rfl; omega) | (apply WL.rem; exact rfl; exact rfl; exact rfl; exact rfl; omega) | (apply WL.loadA tOk; exact rfl; exact rfl; exact rfl; exact rfl; exact rfl; (first | assumption | (focus (apply Cells.ext; rotate_left; assumption; (exact extA); done))); exact rfl) | (apply WL.guardF; exact rfl; exact rfl) | (apply WL.gD; exact rfl; exact rfl; all_goals intro _) | (apply WL.gN; exact rfl; exact rfl; all_goals intro _) | (apply WL.gB; exact rfl; exact rfl; all_goals intro _))
          | (show Z _ _ _ _ _; first | apply Z.tail | apply Z.then_normal | apply Z.block_normal | apply Z.then_exit | apply Z.block_exit | apply Z.then_ret | apply Z.block_ret | (apply Z.block_other; exact rfl))
          | (show W _ _ _ _ _ _; first | apply W.seq | apply W.region | apply W.block | apply W.skip | apply W.ret | apply W.exit | (apply W.condT; exact rfl) | (apply W.condF; exact rfl) | (apply W.condD; exact rfl; all_goals intro _) | (apply W.condN; exact rfl; all_goals intro _) | (apply W.condB; exact rfl; all_goals intro _)))
        exact Z.again1 (by omega) (by repeat' first | exact trivial | (refine And.intro ?_ ?_) | exact rfl | (rw [hs]; exact rfl))
    · rw [if_neg q1] at hs
      by_cases q2 : s.1 = 0
      · rw [if_pos (.inl q2)] at hs
        repeat' (first
          | ((show WL _ _ _ (⟨_, .call ⟨.value (.func 80), _, _⟩, _, _, _, _⟩ :: _) _ _ _); apply WL.callS; exact rfl; exact rfl; exact rfl; exact rfl; exact tri_Lit rb cb vals (2 * v) _ (Rb.ext hX0))
          | (apply WL.gT; exact rfl; exact rfl; (focus (first | exact dec_false q1 | exact dec_true q2 | exact dec_true hkl; done)))
          | (apply WL.gF; exact rfl; exact rfl; (focus (first | exact dec_false q1 | exact dec_true q2 | exact dec_true hkl; done)))
          | (apply W.condKT; exact rfl; (focus (first | exact dec_false q1 | exact dec_true q2 | exact dec_true hkl; done)))
          | (apply W.condKF; exact rfl; (focus (first | exact dec_false q1 | exact dec_true q2 | exact dec_true hkl; done)))
          | (show WL _ _ _ _ _ _ _; first | apply WL.nil | (apply WL.pev tOk; exact rfl; exact rfl; exact rfl) | (apply WL.load tOk; exact rfl; exact rfl; exact rfl; exact rfl; exact rfl; (first | assumption | (focus (apply Ext.cell; rotate_left; assumption; (exact extA); done)))) | (apply WL.index tOk; exact rfl; exact rfl; exact rfl; exact rfl; exact rfl; exact rfl; exact rfl; exact rfl; assumption; (exact extA); exact rfl; omega; assumption; intro b off h; have hcc := h; first | (obtain ⟨h1, h2, h3, h4, h5, h6, _⟩ := h) | (obtain ⟨h1, h2, h3, _⟩ := h) | (obtain ⟨h1, h2, _⟩ := h) | (obtain ⟨h1, _⟩ := h)) | (apply WL.add; exact rfl; exact rfl; exact rfl; exact rfl; omega) | (apply WL.sub; exact rfl; exact rfl; exact rfl; exact rfl; omega) | (apply WL.mul; exact rfl; exact rfl; exact rfl; exact rfl; omega) | (apply WL.quo; exact rfl; exact rfl; exact rfl; exact rfl; omega) | (apply WL.rem; exact rfl; exact rfl; exact rfl; exact rfl; omega) | (apply WL.loadA tOk; exact rfl; exact rfl; exact rfl; exact rfl; exact rfl; (first | assumption | (focus (apply Cells.ext; rotate_left; assumption; (exact extA); done))); exact rfl) | (apply WL.guardF; exact rfl; exact rfl) | (apply WL.gD; exact rfl; exact rfl; all_goals intro _) | (apply WL.gN; exact rfl; exact rfl; all_goals intro _) | (apply WL.gB; exact rfl; exact rfl; all_goals intro _))
          | (show Z _ _ _ _ _; first | apply Z.tail | apply Z.then_normal | apply Z.block_normal | apply Z.then_exit | apply Z.block_exit | apply Z.then_ret | apply Z.block_ret | (apply Z.block_other; exact rfl))
          | (show W _ _ _ _ _ _; first | apply W.seq | apply W.region | apply W.block | apply W.skip | apply W.ret | apply W.exit | (apply W.condT; exact rfl) | (apply W.condF; exact rfl) | (apply W.condD; exact rfl; all_goals intro _) | (apply W.condN; exact rfl; all_goals intro _) | (apply W.condB; exact rfl; all_goals intro _)))
        exact Z.again1 (by omega) (by repeat' first | exact trivial | (refine And.intro ?_ ?_) | exact rfl | (rw [hs]; exact rfl))
      · by_cases q3 : prioOf prio s.1 < prioOf prio v
        · rw [if_pos (.inr q3)] at hs
          repeat' (first
            | ((show WL _ _ _ (⟨_, .call ⟨.value (.func 80), _, _⟩, _, _, _, _⟩ :: _) _ _ _); apply WL.callS; exact rfl; exact rfl; exact rfl; exact rfl; exact tri_Lit rb cb vals (2 * v) _ (Rb.ext hX0))
            | (apply WL.gT; exact rfl; exact rfl; (focus (first | exact dec_false q1 | exact dec_false q2 | exact dec_true q3 | exact dec_true hkl; done)))
            | (apply WL.gF; exact rfl; exact rfl; (focus (first | exact dec_false q1 | exact dec_false q2 | exact dec_true q3 | exact dec_true hkl; done)))
            | (apply W.condKT; exact rfl; (focus (first | exact dec_false q1 | exact dec_false q2 | exact dec_true q3 | exact dec_true hkl; done)))
            | (apply W.condKF; exact rfl; (focus (first | exact dec_false q1 | exact dec_false q2 | exact dec_true q3 | exact dec_true hkl; done)))
            | ((show WL _ _ _ (⟨_, .call ⟨.value (.tmp _), _, _⟩, _, _, _, _⟩ :: _) _ _ _); apply WL.callS; exact rfl; exact rfl; exact rfl; exact rfl; exact front_Pick1 rp cp gb prio v _ (Rp.ext hX0) (by omega) hcg2)
            | ((show WL _ _ _ (⟨_, .call ⟨.value (.tmp _), _, _⟩, _, _, _, _⟩ :: _) _ _ _); apply WL.callS; exact rfl; exact rfl; exact rfl; exact rfl; exact front_Pick1 rp cp gb prio s.1 _ (Rp.ext hX0) hz0 hcg2)
            | (show WL _ _ _ _ _ _ _; first | apply WL.nil | (apply WL.pev tOk; exact rfl; exact rfl; exact rfl) | (apply WL.load tOk; exact rfl; exact rfl; exact rfl; exact rfl; exact rfl; (first | assumption | (focus (apply Ext.cell; rotate_left; assumption; (exact extA); done)))) | (apply WL.index tOk; exact rfl; exact rfl; exact rfl; exact rfl; exact rfl; exact rfl; exact rfl; exact rfl; assumption; (exact extA); exact rfl; omega; assumption; intro b off h; have hcc := h; first | (obtain ⟨h1, h2, h3, h4, h5, h6, _⟩ := h) | (obtain ⟨h1, h2, h3, _⟩ := h) | (obtain ⟨h1, h2, _⟩ := h) | (obtain ⟨h1, _⟩ := h)) | (apply WL.add; exact rfl; exact rfl; exact rfl; exact rfl; omega) | (apply WL.sub; exact rfl; exact rfl; exact rfl; exact rfl; omega) | (apply WL.mul; exact rfl; exact rfl; exact rfl; exact rfl; omega) | (apply WL.quo; exact rfl; exact rfl; exact rfl; exact rfl; omega) | (apply WL.rem; exact rfl; exact rfl; exact rfl; exact rfl; omega) | (apply WL.loadA tOk; exact rfl; exact rfl; exact rfl; exact rfl; exact rfl; (first | assumption | (focus (apply Cells.ext; rotate_left; assumption; (exact extA); done))); exact rfl) | (apply WL.guardF; exact rfl; exact rfl) | (apply WL.gD; exact rfl; exact rfl; all_goals intro _) | (apply WL.gN; exact rfl; exact rfl; all_goals intro _) | (apply WL.gB; exact rfl; exact rfl; all_goals intro _))
            | (show Z _ _ _ _ _; first | apply Z.tail | apply Z.then_normal | apply Z.block_normal | apply Z.then_exit | apply Z.block_exit | apply Z.then_ret | apply Z.block_ret | (apply Z.block_other; exact rfl))
            | (show W _ _ _ _ _ _; first | apply W.seq | apply W.region | apply W.block | apply W.skip | apply W.ret | apply W.exit | (apply W.condT; exact rfl) | (apply W.condF; exact rfl) | (apply W.condD; exact rfl; all_goals intro _) | (apply W.condN; exact rfl; all_goals intro _) | (apply W.condB; exact rfl; all_goals intro _)))
          exact Z.again1 (by omega) (by repeat' first | exact trivial | (refine And.intro ?_ ?_) | exact rfl | (rw [hs]; exact rfl))
        · rw [if_neg (fun h => h.elim q2 q3)] at hs
          repeat' (first
            | ((show WL _ _ _ (⟨_, .call ⟨.value (.func 80), _, _⟩, _, _, _, _⟩ :: _) _ _ _); apply WL.callS; exact rfl; exact rfl; exact rfl; exact rfl; exact tri_Lit rb cb vals (2 * v) _ (Rb.ext hX0))
            | (apply WL.gT; exact rfl; exact rfl; (focus (first | exact dec_false q1 | exact dec_false q2 | exact dec_false q3 | exact dec_true hkl; done)))
            | (apply WL.gF; exact rfl; exact rfl; (focus (first | exact dec_false q1 | exact dec_false q2 | exact dec_false q3 | exact dec_true hkl; done)))
            | (apply W.condKT; exact rfl; (focus (first | exact dec_false q1 | exact dec_false q2 | exact dec_false q3 | exact dec_true hkl; done)))
            | (apply W.condKF; exact rfl; (focus (first | exact dec_false q1 | exact dec_false q2 | exact dec_false q3 | exact dec_true hkl; done)))
            | ((show WL _ _ _ (⟨_, .call ⟨.value (.tmp _), _, _⟩, _, _, _, _⟩ :: _) _ _ _); apply WL.callS; exact rfl; exact rfl; exact rfl; exact rfl; exact front_Pick1 rp cp gb prio v _ (Rp.ext hX0) (by omega) hcg2)
            | ((show WL _ _ _ (⟨_, .call ⟨.value (.tmp _), _, _⟩, _, _, _, _⟩ :: _) _ _ _); apply WL.callS; exact rfl; exact rfl; exact rfl; exact rfl; exact front_Pick1 rp cp gb prio s.1 _ (Rp.ext hX0) hz0 hcg2)
            | (show WL _ _ _ _ _ _ _; first | apply WL.nil | (apply WL.pev tOk; exact rfl; exact rfl; exact rfl) | (apply WL.load tOk; exact rfl; exact rfl; exact rfl; exact rfl; exact rfl; (first | assumption | (focus (apply Ext.cell; rotate_left; assumption; (exact extA); done)))) | (apply WL.index tOk; exact rfl; exact rfl; exact rfl; exact rfl; exact rfl; exact rfl; exact rfl; exact rfl; assumption; (exact extA); exact rfl; omega; assumption; intro b off h; have hcc := h; first | (obtain ⟨h1, h2, h3, h4, h5, h6, _⟩ := h) | (obtain ⟨h1, h2, h3, _⟩ := h) | (obtain ⟨h1, h2, _⟩ := h) | (obtain ⟨h1, _⟩ := h)) | (apply WL.add; exact rfl; exact rfl; exact rfl; exact rfl; omega) | (apply WL.sub; exact rfl; exact rfl; exact rfl; exact rfl; omega) | (apply WL.mul; exact rfl; exact rfl; exact rfl; exact rfl; omega) | (apply WL.quo; exact rfl; exact rfl; exact rfl; exact rfl; omega) | (apply WL.rem; exact rfl; exact rfl; exact rfl; exact rfl; omega) | (apply WL.loadA tOk; exact rfl; exact rfl; exact rfl; exact rfl; exact rfl; (first | assumption | (focus (apply Cells.ext; rotate_left; assumption; (exact extA); done))); exact rfl) | (apply WL.guardF; exact rfl; exact rfl) | (apply WL.gD; exact rfl; exact rfl; all_goals intro _) | (apply WL.gN; exact rfl; exact rfl; all_goals intro _) | (apply WL.gB; exact rfl; exact rfl; all_goals intro _))
            | (show Z _ _ _ _ _; first | apply Z.tail | apply Z.then_normal | apply Z.block_normal | apply Z.then_exit | apply Z.block_exit | apply Z.then_ret | apply Z.block_ret | (apply Z.block_other; exact rfl))
            | (show W _ _ _ _ _ _; first | apply W.seq | apply W.region | apply W.block | apply W.skip | apply W.ret | apply W.exit | (apply W.condT; exact rfl) | (apply W.condF; exact rfl) | (apply W.condD; exact rfl; all_goals intro _) | (apply W.condN; exact rfl; all_goals intro _) | (apply W.condB; exact rfl; all_goals intro _)))
          exact Z.again1 (by omega) (by repeat' first | exact trivial | (refine And.intro ?_ ?_) | exact rfl | (rw [hs]; exact rfl))
  · obtain rfl : k = (opens n vals).length := by omega
    have hpk : pick n vals prio = if 0 < (pTo vals prio (opens n vals) (opens n vals).length).1 then trace n vals (Lt.xor1 (freeV n vals (pTo vals prio (opens n vals) (opens n vals).length).1)) else if 0 < (pTo vals prio (opens n vals) (opens n vals).length).2 then trace n vals (freeV n vals (pTo vals prio (opens n vals) (opens n vals).length).2) else 0 := rfl
    generalize pTo vals prio (opens n vals) (opens n vals).length = s at hpk hmem ⊢
    have hkl : ¬ (((opens n vals).length : Int) < ((opens n vals).length : Int)) := by omega
    have fr : ∀ z, (z = 0 ∨ z ∈ opens n vals) → 0 < z → ∃ x, n[(z - 1).toNat]? = some x ∧ freeV n vals z = freeL vals x ∧ 0 ≤ freeL vals x ∧ freeL vals x ≤ 2097152 ∧ z ≤ 1048576 := by
      intro z hz h0
      have hm := hz.resolve_left (by omega)
      obtain ⟨z1, z2, x, hx, ho⟩ := opens_mem hm
      have hf := freeL_le hg hx (by have := ho.1; omega) vals
      exact ⟨x, hx, by rw [freeV, getD_of hx], hf.1, by omega, by omega⟩
    by_cases q1 : 0 < s.1
    · obtain ⟨x, hx, hfx, f0, f1, f2⟩ := fr s.1 hmem.1 q1
      have hb1 : 0 ≤ Lt.xor1 (freeL vals x) ∧ Lt.xor1 (freeL vals x) ≤ 9223372036854775807 := by unfold Lt.xor1; split <;> omega
      rw [if_pos q1, hfx] at hpk
      rw [hpk]
      repeat' (first
        | (apply WL.and1; exact rfl; exact rfl; exact rfl; exact rfl; omega)
        | (apply WL.xorA; exact rfl; exact rfl; exact rfl; exact rfl; omega)
        | (apply WL.gT; exact rfl; exact rfl; (focus (first | exact dec_false hkl | exact dec_true q1; done)))
        | (apply WL.gF; exact rfl; exact rfl; (focus (first | exact dec_false hkl | exact dec_true q1; done)))
        | (apply W.condKT; exact rfl; (focus (first | exact dec_false hkl | exact dec_true q1; done)))
        | (apply W.condKF; exact rfl; (focus (first | exact dec_false hkl | exact dec_true q1; done)))
        | ((show WL _ _ _ (⟨_, .call ⟨.value (.func 81), _, _⟩, _, _, _, _⟩ :: _) _ _ _); apply WL.callP; exact rfl; exact rfl; exact rfl; exact rfl; exact front_free rb cb vals x _ (Rb.ext (by (exact extA))); intro w' hx)
        | ((show WL _ _ _ (⟨_, .call ⟨.value (.func 19), _, _⟩, _, _, _, _⟩ :: _) _ _ _); apply WL.callP; exact rfl; exact rfl; exact rfl; exact rfl; exact front_Trace ra rb cap cb n vals (Lt.xor1 (freeL vals x)) _ hg hn hb1.2 (R.ext (by (exact extA))) (Rb.ext (by (exact extA))); intro w' hx)
        | (show WL _ _ _ _ _ _ _; first | apply WL.nil | (apply WL.pev tOk; exact rfl; exact rfl; exact rfl) | (apply WL.load tOk; exact rfl; exact rfl; exact rfl; exact rfl; exact rfl; (first | assumption | (focus (apply Ext.cell; rotate_left; assumption; (exact extA); done)))) | (apply WL.index tOk; exact rfl; exact rfl; exact rfl; exact rfl; exact rfl; exact rfl; exact rfl; exact rfl; assumption; (exact extA); exact rfl; omega; assumption; intro b off h; have hcc := h; first | (obtain ⟨h1, h2, h3, h4, h5, h6, _⟩ := h) | (obtain ⟨h1, h2, h3, _⟩ := h) | (obtain ⟨h1, h2, _⟩ := h) | (obtain ⟨h1, _⟩ := h)) | (apply WL.add; exact rfl; exact rfl; exact rfl; exact rfl; omega) | (apply WL.sub; exact rfl; exact rfl; exact rfl; exact rfl; omega) | (apply WL.mul; exact rfl; exact rfl; exact rfl; exact rfl; omega) | (apply WL.quo; exact rfl; exact rfl; exact rfl; exact rfl; omega) | (apply WL.rem; exact rfl; exact rfl; exact rfl; exact rfl; omega) | (apply WL.loadA tOk; exact rfl; exact rfl; exact rfl; exact rfl; exact rfl; (first | assumption | (focus (apply Cells.ext; rotate_left; assumption; (exact extA); done))); exact rfl) | (apply WL.guardF; exact rfl; exact rfl) | (apply WL.gD; exact rfl; exact rfl; all_goals intro _) | (apply WL.gN; exact rfl; exact rfl; all_goals intro _) | (apply WL.gB; exact rfl; exact rfl; all_goals intro _))
        | (show Z _ _ _ _ _; first | apply Z.tail | apply Z.then_normal | apply Z.block_normal | apply Z.then_exit | apply Z.block_exit | apply Z.then_ret | apply Z.block_ret | (apply Z.block_other; exact rfl))
        | (show W _ _ _ _ _ _; first | apply W.seq | apply W.region | apply W.block | apply W.skip | apply W.ret | apply W.exit | (apply W.condT; exact rfl) | (apply W.condF; exact rfl) | (apply W.condD; exact rfl; all_goals intro _) | (apply W.condN; exact rfl; all_goals intro _) | (apply W.condB; exact rfl; all_goals intro _)))
      exact Z.body2 Try.results20 rfl rfl fun m => ⟨rfl, Ext.at (by (exact extA)) m⟩
    · rw [if_neg q1] at hpk
      by_cases q2 : 0 < s.2
      · obtain ⟨x, hx, hfx, f0, f1, f2⟩ := fr s.2 hmem.2 q2
        have hb1 : freeL vals x ≤ 9223372036854775807 := by omega
        rw [if_pos q2, hfx] at hpk
        rw [hpk]
        repeat' (first
          | (apply WL.gT; exact rfl; exact rfl; (focus (first | exact dec_false hkl | exact dec_false q1 | exact dec_true q2; done)))
          | (apply WL.gF; exact rfl; exact rfl; (focus (first | exact dec_false hkl | exact dec_false q1 | exact dec_true q2; done)))
          | (apply W.condKT; exact rfl; (focus (first | exact dec_false hkl | exact dec_false q1 | exact dec_true q2; done)))
          | (apply W.condKF; exact rfl; (focus (first | exact dec_false hkl | exact dec_false q1 | exact dec_true q2; done)))
          | ((show WL _ _ _ (⟨_, .call ⟨.value (.func 81), _, _⟩, _, _, _, _⟩ :: _) _ _ _); apply WL.callP; exact rfl; exact rfl; exact rfl; exact rfl; exact front_free rb cb vals x _ (Rb.ext (by (exact extA))); intro w' hx)
          | ((show WL _ _ _ (⟨_, .call ⟨.value (.func 19), _, _⟩, _, _, _, _⟩ :: _) _ _ _); apply WL.callP; exact rfl; exact rfl; exact rfl; exact rfl; exact front_Trace ra rb cap cb n vals (freeL vals x) _ hg hn hb1 (R.ext (by (exact extA))) (Rb.ext (by (exact extA))); intro w' hx)
          | (show WL _ _ _ _ _ _ _; first | apply WL.nil | (apply WL.pev tOk; exact rfl; exact rfl; exact rfl) | (apply WL.load tOk; exact rfl; exact rfl; exact rfl; exact rfl; exact rfl; (first | assumption | (focus (apply Ext.cell; rotate_left; assumption; (exact extA); done)))) | (apply WL.index tOk; exact rfl; exact rfl; exact rfl; exact rfl; exact rfl; exact rfl; exact rfl; exact rfl; assumption; (exact extA); exact rfl; omega; assumption; intro b off h; have hcc := h; first | (obtain ⟨h1, h2, h3, h4, h5, h6, _⟩ := h) | (obtain ⟨h1, h2, h3, _⟩ := h) | (obtain ⟨h1, h2, _⟩ := h) | (obtain ⟨h1, _⟩ := h)) | (apply WL.add; exact rfl; exact rfl; exact rfl; exact rfl; omega) | (apply WL.sub; exact rfl; exact rfl; exact rfl; exact rfl; omega) | (apply WL.mul; exact rfl; exact rfl; exact rfl; exact rfl; omega) | (apply WL.quo; exact rfl; exact rfl; exact rfl; exact rfl; omega) | (apply WL.rem; exact rfl; exact rfl; exact rfl; exact rfl; omega) | (apply WL.loadA tOk; exact rfl; exact rfl; exact rfl; exact rfl; exact rfl; (first | assumption | (focus (apply Cells.ext; rotate_left; assumption; (exact extA); done))); exact rfl) | (apply WL.guardF; exact rfl; exact rfl) | (apply WL.gD; exact rfl; exact rfl; all_goals intro _) | (apply WL.gN; exact rfl; exact rfl; all_goals intro _) | (apply WL.gB; exact rfl; exact rfl; all_goals intro _))
          | (show Z _ _ _ _ _; first | apply Z.tail | apply Z.then_normal | apply Z.block_normal | apply Z.then_exit | apply Z.block_exit | apply Z.then_ret | apply Z.block_ret | (apply Z.block_other; exact rfl))
          | (show W _ _ _ _ _ _; first | apply W.seq | apply W.region | apply W.block | apply W.skip | apply W.ret | apply W.exit | (apply W.condT; exact rfl) | (apply W.condF; exact rfl) | (apply W.condD; exact rfl; all_goals intro _) | (apply W.condN; exact rfl; all_goals intro _) | (apply W.condB; exact rfl; all_goals intro _)))
        exact Z.body2 Try.results20 rfl rfl fun m => ⟨rfl, Ext.at (by (exact extA)) m⟩
      · rw [if_neg q2] at hpk
        rw [hpk]
        repeat' (first
          | (apply WL.gT; exact rfl; exact rfl; (focus (first | exact dec_false hkl | exact dec_false q1 | exact dec_false q2; done)))
          | (apply WL.gF; exact rfl; exact rfl; (focus (first | exact dec_false hkl | exact dec_false q1 | exact dec_false q2; done)))
          | (apply W.condKT; exact rfl; (focus (first | exact dec_false hkl | exact dec_false q1 | exact dec_false q2; done)))
          | (apply W.condKF; exact rfl; (focus (first | exact dec_false hkl | exact dec_false q1 | exact dec_false q2; done)))
          | (show WL _ _ _ _ _ _ _; first | apply WL.nil | (apply WL.pev tOk; exact rfl; exact rfl; exact rfl) | (apply WL.load tOk; exact rfl; exact rfl; exact rfl; exact rfl; exact rfl; (first | assumption | (focus (apply Ext.cell; rotate_left; assumption; (exact extA); done)))) | (apply WL.index tOk; exact rfl; exact rfl; exact rfl; exact rfl; exact rfl; exact rfl; exact rfl; exact rfl; assumption; (exact extA); exact rfl; omega; assumption; intro b off h; have hcc := h; first | (obtain ⟨h1, h2, h3, h4, h5, h6, _⟩ := h) | (obtain ⟨h1, h2, h3, _⟩ := h) | (obtain ⟨h1, h2, _⟩ := h) | (obtain ⟨h1, _⟩ := h)) | (apply WL.add; exact rfl; exact rfl; exact rfl; exact rfl; omega) | (apply WL.sub; exact rfl; exact rfl; exact rfl; exact rfl; omega) | (apply WL.mul; exact rfl; exact rfl; exact rfl; exact rfl; omega) | (apply WL.quo; exact rfl; exact rfl; exact rfl; exact rfl; omega) | (apply WL.rem; exact rfl; exact rfl; exact rfl; exact rfl; omega) | (apply WL.loadA tOk; exact rfl; exact rfl; exact rfl; exact rfl; exact rfl; (first | assumption | (focus (apply Cells.ext; rotate_left; assumption; (exact extA); done))); exact rfl) | (apply WL.guardF; exact rfl; exact rfl) | (apply WL.gD; exact rfl; exact rfl; all_goals intro _) | (apply WL.gN; exact rfl; exact rfl; all_goals intro _) | (apply WL.gB; exact rfl; exact rfl; all_goals intro _))
          | (show Z _ _ _ _ _; first | apply Z.tail | apply Z.then_normal | apply Z.block_normal | apply Z.then_exit | apply Z.block_exit | apply Z.then_ret | apply Z.block_ret | (apply Z.block_other; exact rfl))
          | (show W _ _ _ _ _ _; first | apply W.seq | apply W.region | apply W.block | apply W.skip | apply W.ret | apply W.exit | (apply W.condT; exact rfl) | (apply W.condF; exact rfl) | (apply W.condD; exact rfl; all_goals intro _) | (apply W.condN; exact rfl; all_goals intro _) | (apply W.condB; exact rfl; all_goals intro _)))
        exact Z.body2 Try.results20 rfl rfl fun m => ⟨by rw [dec_false (by decide)], Ext.at (by (exact extA)) m⟩
end Go.Proofs.Ytfkdlepemiepdaa
