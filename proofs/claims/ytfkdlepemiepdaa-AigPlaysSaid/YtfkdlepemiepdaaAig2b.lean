/- The store of gates: whether it has all of these. No conditions. -/
import Derived.Test.YtfkdlepemiepdaaAig2
namespace Go.Proofs.Ytfkdlepemiepdaa
open Go Go.Lt Go.RowKit
set_option linter.unusedVariables false
set_option linter.unusedSimpArgs false

set_option maxHeartbeats 4000000 in
theorem aig_has (gs cap cl : Nat) (a al : Option Addr) (N : List (Int × Int)) (L : List Int) (v2 : Value) (w : World) (hc : w.heap[gs]? = some (.cells #[.slice a N.length cap, v2] 136 (0, 0))) (RL : Row 1 encI w al L) (hN : N.length ≤ 1048576) :
    Pure Try.prog 107 [.pointer (some ⟨gs, 0, none⟩), .slice al L.length cl] w (.bool (dec (∀ x ∈ L, hasL N x))) := by
  refine Spec.of _ Try.func107 rfl Try.ntmps107 (by kernel_rfl) rfl ?_
  repeat' (first
    | (apply WL.box; exact rfl; exact rfl; exact rfl; intro gb w' hb hge hc hx; have hcc := hc; first | (obtain ⟨h1, h2, h3, _⟩ := hc) | (obtain ⟨h1, h2, _⟩ := hc))
    | (apply WL.nilc; exact rfl; exact rfl; exact rfl)
    | (apply WL.eqNilS tOk; exact rfl; exact rfl; exact rfl; exact rfl; exact rfl; exact rfl)
    | (apply WL.neNilS tOk; exact rfl; exact rfl; exact rfl; exact rfl; exact rfl; exact rfl)
    | (apply WL.eqNil tOk; exact rfl; exact rfl; exact rfl; exact rfl; exact rfl; exact rfl)
    | (apply WL.neNil tOk; exact rfl; exact rfl; exact rfl; exact rfl; exact rfl; exact rfl)
    | ((show WL _ _ _ (⟨_, .call ⟨.value (.func 154), _, _⟩, _, _, _, _⟩ :: _) _ _ _); apply WL.callS; exact rfl; exact rfl; exact rfl; exact rfl; exact slices_ContainsFunc _ _ L 155 [.pointer (some ⟨gb, 0, none⟩)] (fun x => !dec (hasL N x)) _ _ RL hx (fun x _ => aig_has1 gs gb cap a N v2 x _ (Ext.heap hx hc) h1 hN))
    | (show WL _ _ _ _ _ _ _; first | apply WL.nil | (apply WL.pev tOk; exact rfl; exact rfl; exact rfl) | (apply WL.load tOk; exact rfl; exact rfl; exact rfl; exact rfl; exact rfl; (first | assumption | (focus (apply Ext.cell; rotate_left; assumption; (exact extA); done)))) | (apply WL.index tOk; exact rfl; exact rfl; exact rfl; exact rfl; exact rfl; exact rfl; exact rfl; exact rfl; assumption; (exact extA); exact rfl; omega; assumption; intro b off h; have hcc := h; first | (obtain ⟨h1, h2, h3, h4, h5, h6, _⟩ := h) | (obtain ⟨h1, h2, h3, _⟩ := h) | (obtain ⟨h1, h2, _⟩ := h) | (obtain ⟨h1, _⟩ := h)) | (apply WL.add; exact rfl; exact rfl; exact rfl; exact rfl; omega) | (apply WL.sub; exact rfl; exact rfl; exact rfl; exact rfl; omega) | (apply WL.mul; exact rfl; exact rfl; exact rfl; exact rfl; omega) | (apply WL.quo; exact rfl; exact rfl; exact rfl; exact rfl; omega) | (apply WL.rem; exact rfl; exact rfl; exact rfl; exact rfl; omega) | (apply WL.loadA tOk; exact rfl; exact rfl; exact rfl; exact rfl; exact rfl; (first | assumption | (focus (apply Cells.ext; rotate_left; assumption; (exact extA); done))); exact rfl) | (apply WL.guardF; exact rfl; exact rfl) | (apply WL.gD; exact rfl; exact rfl; all_goals intro _) | (apply WL.gN; exact rfl; exact rfl; all_goals intro _) | (apply WL.gB; exact rfl; exact rfl; all_goals intro _))
    | (show Z _ _ _ _ _; first | apply Z.tail | apply Z.then_normal | apply Z.block_normal | apply Z.then_exit | apply Z.block_exit | apply Z.then_ret | apply Z.block_ret | (apply Z.block_other; exact rfl))
    | (show W _ _ _ _ _ _; first | apply W.seq | apply W.region | apply W.block | apply W.skip | apply W.ret | apply W.exit | (apply W.condT; exact rfl) | (apply W.condF; exact rfl) | (apply W.condD; exact rfl; all_goals intro _) | (apply W.condN; exact rfl; all_goals intro _) | (apply W.condB; exact rfl; all_goals intro _)))
  refine Z.body1 Try.results107 rfl fun m => ⟨congrArg Value.bool ?_, Ext.at (by (exact extA)) m⟩
  by_cases h : ∀ x ∈ L, hasL N x
  · rw [dec_true h, dec_false]
    · rfl
    · rintro ⟨x, hx, hp⟩; rw [dec_true (h x hx)] at hp; cases hp
  · rw [dec_false h, dec_true]
    · rfl
    · have h' : ∃ x, ¬ (x ∈ L → hasL N x) := Classical.not_forall.1 h
      obtain ⟨x, hx⟩ := h'
      have h2 : x ∈ L ∧ ¬ hasL N x := Classical.not_imp.1 hx
      exact ⟨x, h2.1, by rw [dec_false h2.2]; rfl⟩
end Go.Proofs.Ytfkdlepemiepdaa
