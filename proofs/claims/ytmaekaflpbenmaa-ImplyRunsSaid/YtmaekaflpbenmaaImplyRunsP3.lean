/- Part 3 of what the claim ImplyRuns needs: lemmas and contracts, printed from longer texts. No conditions. -/
import Derived.Test.YtmaekaflpbenmaaRows
import Derived.Lib.SmallJoins
import Derived.KernelRfl
import Derived.WalkKit
import Derived.ProofKit
import Derived.Deep.Quiet
import Derived.Deep.LoopGhost
import Derived.StillTail
import Derived.Test.YtmaekaflpbenmaaProg
import Derived.OpenShut
import Derived.ShutString
import Derived.ChangeOld
import Derived.Deep.Slices
import Derived.SizedLaws
import Derived.Laws.StructEq
import Derived.Laws.Externs
import Derived.MapKept
import Derived.Test.YtmaekaflpbenmaaImplyRunsP2
namespace Go.Proofs.Ytmaekaflpbenmaa
open Go Go.Lt Go.RowKit
set_option linter.unusedVariables false
set_option linter.unusedSimpArgs false

section
variable {B gt n : Nat} {w : World} {av am al ae : Option Addr} {cv cm cl ce : Nat} {V : List Int} {M Lr : List T3} {L E : List Int} {rest : List Piece}
/-- The four rows of a trail, by its variable's cells. -/
structure TrC (w : World) (gt n : Nat) (av : Option Addr) (cv : Nat) (am : Option Addr) (cm : Nat) (al : Option Addr) (cl nl : Nat) (ae : Option Addr) (ce ne : Nat) : Prop where
  c0 : w.cell? ⟨gt, 0, none⟩ = some (.slice av (n + 1) cv)
  c1 : w.cell? ⟨gt, 0 + 1, none⟩ = some (.slice am (n + 1) cm)
  c2 : w.cell? ⟨gt, 0 + 1 + 1, none⟩ = some (.slice al nl cl)
  c3 : w.cell? ⟨gt, 0 + 1 + 1 + 1, none⟩ = some (.slice ae ne ce)
theorem trC (hS : Lt.Sep B w (trP B gt n av cv V am cm M al cl L ae ce E ++ rest)) : TrC w gt n av cv am cm al cl L.length ae ce E.length := by
  have h := cells_heap (hS.cell (i := 0) rfl)
  exact ⟨h.1, h.2.1, h.2.2.1, h.2.2.2.1⟩
theorem trail_Value (hS : Lt.Sep B w (trP B gt n av cv (vOf n Lr) am cm M al cl L ae ce E ++ rest)) (hT : TOk n Lr) (hn : n ≤ 1048576) (l : Int) :
    Still Try.prog 58 [.pointer (some ⟨gt, 0, none⟩), .int .i64 l] w (.int .i64 (valT n Lr l)) := by
  obtain ⟨c0, c1, c2, c3⟩ := trC hS
  have hR1 := hS.row (i := 1) rfl
  have hl := vOf_len n Lr
  have key := tri_Lit av cv (vOf n Lr) l w (Own.row encI_ok hR1)
  rw [hl, lit3_vOf hT hn] at key
  refine Spec.of _ Try.func58 rfl Try.ntmps58 (by kernel_rfl) rfl ?_
  repeat' (first
    | (apply WL.nilc; exact rfl; exact rfl; exact rfl)
    | (apply WL.eqNilS tOk; exact rfl; exact rfl; exact rfl; exact rfl; exact rfl; exact rfl)
    | (apply WL.neNilS tOk; exact rfl; exact rfl; exact rfl; exact rfl; exact rfl; exact rfl)
    | (apply WL.eqNil tOk; exact rfl; exact rfl; exact rfl; exact rfl; exact rfl; exact rfl)
    | (apply WL.neNil tOk; exact rfl; exact rfl; exact rfl; exact rfl; exact rfl; exact rfl)
    | (apply WL.callS; exact rfl; exact rfl; exact rfl; exact rfl; exact key)
    | ((show WL _ _ _ (⟨_, .call ⟨.value (.func 107), _, _⟩, _, _, _, _⟩ :: _) _ _ _); apply WL.callS; exact rfl; exact rfl; exact rfl; exact rfl; exact key)
    | (show WL _ _ _ _ _ _ _; first | apply WL.nil | (apply WL.pev tOk; exact rfl; exact rfl; exact rfl) | (apply WL.load tOk; exact rfl; exact rfl; exact rfl; exact rfl; exact rfl; (first | assumption | (focus (apply Ext.cell; rotate_left; assumption; (exact extA); done)))) | (apply WL.index tOk; exact rfl; exact rfl; exact rfl; exact rfl; exact rfl; exact rfl; exact rfl; exact rfl; assumption; (exact extA); exact rfl; omega; assumption; intro b off h; have hcc := h; first | (obtain ⟨h1, h2, h3, h4, h5, h6, _⟩ := h) | (obtain ⟨h1, h2, h3, _⟩ := h) | (obtain ⟨h1, h2, _⟩ := h) | (obtain ⟨h1, _⟩ := h)) | (apply WL.add; exact rfl; exact rfl; exact rfl; exact rfl; omega) | (apply WL.sub; exact rfl; exact rfl; exact rfl; exact rfl; omega) | (apply WL.mul; exact rfl; exact rfl; exact rfl; exact rfl; omega) | (apply WL.quo; exact rfl; exact rfl; exact rfl; exact rfl; omega) | (apply WL.rem; exact rfl; exact rfl; exact rfl; exact rfl; omega) | (apply WL.loadA tOk; exact rfl; exact rfl; exact rfl; exact rfl; exact rfl; (first | assumption | (focus (apply Cells.ext; rotate_left; assumption; (exact extA); done))); exact rfl) | (apply WL.guardF; exact rfl; exact rfl) | (apply WL.gD; exact rfl; exact rfl; all_goals intro _) | (apply WL.gN; exact rfl; exact rfl; all_goals intro _) | (apply WL.gB; exact rfl; exact rfl; all_goals intro _))
    | (show Z _ _ _ _ _; first | apply Z.tail | apply Z.then_normal | apply Z.block_normal | apply Z.then_exit | apply Z.block_exit | apply Z.then_ret | apply Z.block_ret | (apply Z.block_other; exact rfl))
    | (show W _ _ _ _ _ _; first | apply W.seq | apply W.region | apply W.block | apply W.skip | apply W.ret | apply W.exit | (apply W.condT; exact rfl) | (apply W.condF; exact rfl) | (apply W.condD; exact rfl; all_goals intro _) | (apply W.condN; exact rfl; all_goals intro _) | (apply W.condB; exact rfl; all_goals intro _)))
  exact Z.body1 Try.results58 rfl fun m => ⟨rfl, m, rfl⟩
theorem trail_Level (hS : Lt.Sep B w (trP B gt n av cv V am cm M al cl L ae ce E ++ rest)) :
    Still Try.prog 105 [.pointer (some ⟨gt, 0, none⟩)] w (.int .i64 E.length) := by
  obtain ⟨c0, c1, c2, c3⟩ := trC hS
  refine Spec.of _ Try.func105 rfl Try.ntmps105 (by kernel_rfl) rfl ?_
  repeat' (first
    | (apply WL.nilc; exact rfl; exact rfl; exact rfl)
    | (apply WL.eqNilS tOk; exact rfl; exact rfl; exact rfl; exact rfl; exact rfl; exact rfl)
    | (apply WL.neNilS tOk; exact rfl; exact rfl; exact rfl; exact rfl; exact rfl; exact rfl)
    | (apply WL.eqNil tOk; exact rfl; exact rfl; exact rfl; exact rfl; exact rfl; exact rfl)
    | (apply WL.neNil tOk; exact rfl; exact rfl; exact rfl; exact rfl; exact rfl; exact rfl)
    | (show WL _ _ _ _ _ _ _; first | apply WL.nil | (apply WL.pev tOk; exact rfl; exact rfl; exact rfl) | (apply WL.load tOk; exact rfl; exact rfl; exact rfl; exact rfl; exact rfl; (first | assumption | (focus (apply Ext.cell; rotate_left; assumption; (exact extA); done)))) | (apply WL.index tOk; exact rfl; exact rfl; exact rfl; exact rfl; exact rfl; exact rfl; exact rfl; exact rfl; assumption; (exact extA); exact rfl; omega; assumption; intro b off h; have hcc := h; first | (obtain ⟨h1, h2, h3, h4, h5, h6, _⟩ := h) | (obtain ⟨h1, h2, h3, _⟩ := h) | (obtain ⟨h1, h2, _⟩ := h) | (obtain ⟨h1, _⟩ := h)) | (apply WL.add; exact rfl; exact rfl; exact rfl; exact rfl; omega) | (apply WL.sub; exact rfl; exact rfl; exact rfl; exact rfl; omega) | (apply WL.mul; exact rfl; exact rfl; exact rfl; exact rfl; omega) | (apply WL.quo; exact rfl; exact rfl; exact rfl; exact rfl; omega) | (apply WL.rem; exact rfl; exact rfl; exact rfl; exact rfl; omega) | (apply WL.loadA tOk; exact rfl; exact rfl; exact rfl; exact rfl; exact rfl; (first | assumption | (focus (apply Cells.ext; rotate_left; assumption; (exact extA); done))); exact rfl) | (apply WL.guardF; exact rfl; exact rfl) | (apply WL.gD; exact rfl; exact rfl; all_goals intro _) | (apply WL.gN; exact rfl; exact rfl; all_goals intro _) | (apply WL.gB; exact rfl; exact rfl; all_goals intro _))
    | (show Z _ _ _ _ _; first | apply Z.tail | apply Z.then_normal | apply Z.block_normal | apply Z.then_exit | apply Z.block_exit | apply Z.then_ret | apply Z.block_ret | (apply Z.block_other; exact rfl))
    | (show W _ _ _ _ _ _; first | apply W.seq | apply W.region | apply W.block | apply W.skip | apply W.ret | apply W.exit | (apply W.condT; exact rfl) | (apply W.condF; exact rfl) | (apply W.condD; exact rfl; all_goals intro _) | (apply W.condN; exact rfl; all_goals intro _) | (apply W.condB; exact rfl; all_goals intro _)))
  exact Z.body1 Try.results105 rfl fun m => ⟨rfl, m, rfl⟩
theorem trail_Len (hS : Lt.Sep B w (trP B gt n av cv V am cm M al cl L ae ce E ++ rest)) :
    Still Try.prog 53 [.pointer (some ⟨gt, 0, none⟩)] w (.int .i64 L.length) := by
  obtain ⟨c0, c1, c2, c3⟩ := trC hS
  refine Spec.of _ Try.func53 rfl Try.ntmps53 (by kernel_rfl) rfl ?_
  repeat' (first
    | (apply WL.nilc; exact rfl; exact rfl; exact rfl)
    | (apply WL.eqNilS tOk; exact rfl; exact rfl; exact rfl; exact rfl; exact rfl; exact rfl)
    | (apply WL.neNilS tOk; exact rfl; exact rfl; exact rfl; exact rfl; exact rfl; exact rfl)
    | (apply WL.eqNil tOk; exact rfl; exact rfl; exact rfl; exact rfl; exact rfl; exact rfl)
    | (apply WL.neNil tOk; exact rfl; exact rfl; exact rfl; exact rfl; exact rfl; exact rfl)
    | (show WL _ _ _ _ _ _ _; first | apply WL.nil | (apply WL.pev tOk; exact rfl; exact rfl; exact rfl) | (apply WL.load tOk; exact rfl; exact rfl; exact rfl; exact rfl; exact rfl; (first | assumption | (focus (apply Ext.cell; rotate_left; assumption; (exact extA); done)))) | (apply WL.index tOk; exact rfl; exact rfl; exact rfl; exact rfl; exact rfl; exact rfl; exact rfl; exact rfl; assumption; (exact extA); exact rfl; omega; assumption; intro b off h; have hcc := h; first | (obtain ⟨h1, h2, h3, h4, h5, h6, _⟩ := h) | (obtain ⟨h1, h2, h3, _⟩ := h) | (obtain ⟨h1, h2, _⟩ := h) | (obtain ⟨h1, _⟩ := h)) | (apply WL.add; exact rfl; exact rfl; exact rfl; exact rfl; omega) | (apply WL.sub; exact rfl; exact rfl; exact rfl; exact rfl; omega) | (apply WL.mul; exact rfl; exact rfl; exact rfl; exact rfl; omega) | (apply WL.quo; exact rfl; exact rfl; exact rfl; exact rfl; omega) | (apply WL.rem; exact rfl; exact rfl; exact rfl; exact rfl; omega) | (apply WL.loadA tOk; exact rfl; exact rfl; exact rfl; exact rfl; exact rfl; (first | assumption | (focus (apply Cells.ext; rotate_left; assumption; (exact extA); done))); exact rfl) | (apply WL.guardF; exact rfl; exact rfl) | (apply WL.gD; exact rfl; exact rfl; all_goals intro _) | (apply WL.gN; exact rfl; exact rfl; all_goals intro _) | (apply WL.gB; exact rfl; exact rfl; all_goals intro _))
    | (show Z _ _ _ _ _; first | apply Z.tail | apply Z.then_normal | apply Z.block_normal | apply Z.then_exit | apply Z.block_exit | apply Z.then_ret | apply Z.block_ret | (apply Z.block_other; exact rfl))
    | (show W _ _ _ _ _ _; first | apply W.seq | apply W.region | apply W.block | apply W.skip | apply W.ret | apply W.exit | (apply W.condT; exact rfl) | (apply W.condF; exact rfl) | (apply W.condD; exact rfl; all_goals intro _) | (apply W.condN; exact rfl; all_goals intro _) | (apply W.condB; exact rfl; all_goals intro _)))
  exact Z.body1 Try.results53 rfl fun m => ⟨rfl, m, rfl⟩
theorem trail_List (hS : Lt.Sep B w (trP B gt n av cv V am cm M al cl L ae ce E ++ rest)) (hl : L.length ≤ 1048576) :
    Lt.Spec Try.prog 55 [.pointer (some ⟨gt, 0, none⟩)] w (IsFresh 1 encI 3 w L) := by
  obtain ⟨c0, c1, c2, c3⟩ := trC hS
  have hR3 := hS.row (i := 3) rfl
  refine Spec.of _ Try.func55 rfl Try.ntmps55 (by kernel_rfl) rfl ?_
  repeat' (first
    | (apply WL.nilc; exact rfl; exact rfl; exact rfl)
    | (apply WL.eqNilS tOk; exact rfl; exact rfl; exact rfl; exact rfl; exact rfl; exact rfl)
    | (apply WL.neNilS tOk; exact rfl; exact rfl; exact rfl; exact rfl; exact rfl; exact rfl)
    | (apply WL.eqNil tOk; exact rfl; exact rfl; exact rfl; exact rfl; exact rfl; exact rfl)
    | (apply WL.neNil tOk; exact rfl; exact rfl; exact rfl; exact rfl; exact rfl; exact rfl)
    | ((show WL _ _ _ (⟨_, .call ⟨.value (.func 90), _, _⟩, _, _, _, _⟩ :: _) _ _ _); apply WL.call; exact rfl; exact rfl; exact rfl; exact rfl; exact slices_CloneI _ _ L _ (Own.row encI_ok hR3) (Own.noneCap hR3) hl; rintro v' w' ⟨hx, a', cap', rfl, hO⟩)
    | (show WL _ _ _ _ _ _ _; first | apply WL.nil | (apply WL.pev tOk; exact rfl; exact rfl; exact rfl) | (apply WL.load tOk; exact rfl; exact rfl; exact rfl; exact rfl; exact rfl; (first | assumption | (focus (apply Ext.cell; rotate_left; assumption; (exact extA); done)))) | (apply WL.index tOk; exact rfl; exact rfl; exact rfl; exact rfl; exact rfl; exact rfl; exact rfl; exact rfl; assumption; (exact extA); exact rfl; omega; assumption; intro b off h; have hcc := h; first | (obtain ⟨h1, h2, h3, h4, h5, h6, _⟩ := h) | (obtain ⟨h1, h2, h3, _⟩ := h) | (obtain ⟨h1, h2, _⟩ := h) | (obtain ⟨h1, _⟩ := h)) | (apply WL.add; exact rfl; exact rfl; exact rfl; exact rfl; omega) | (apply WL.sub; exact rfl; exact rfl; exact rfl; exact rfl; omega) | (apply WL.mul; exact rfl; exact rfl; exact rfl; exact rfl; omega) | (apply WL.quo; exact rfl; exact rfl; exact rfl; exact rfl; omega) | (apply WL.rem; exact rfl; exact rfl; exact rfl; exact rfl; omega) | (apply WL.loadA tOk; exact rfl; exact rfl; exact rfl; exact rfl; exact rfl; (first | assumption | (focus (apply Cells.ext; rotate_left; assumption; (exact extA); done))); exact rfl) | (apply WL.guardF; exact rfl; exact rfl) | (apply WL.gD; exact rfl; exact rfl; all_goals intro _) | (apply WL.gN; exact rfl; exact rfl; all_goals intro _) | (apply WL.gB; exact rfl; exact rfl; all_goals intro _))
    | (show Z _ _ _ _ _; first | apply Z.tail | apply Z.then_normal | apply Z.block_normal | apply Z.then_exit | apply Z.block_exit | apply Z.then_ret | apply Z.block_ret | (apply Z.block_other; exact rfl))
    | (show W _ _ _ _ _ _; first | apply W.seq | apply W.region | apply W.block | apply W.skip | apply W.ret | apply W.exit | (apply W.condT; exact rfl) | (apply W.condF; exact rfl) | (apply W.condD; exact rfl; all_goals intro _) | (apply W.condN; exact rfl; all_goals intro _) | (apply W.condB; exact rfl; all_goals intro _)))
  exact Z.body1 Try.results55 rfl fun m => ⟨hx.at m, a', cap', rfl, hO⟩
theorem trail_Values (hS : Lt.Sep B w (trP B gt n av cv V am cm M al cl L ae ce E ++ rest)) (hl : V.length = n + 1) (hn : n ≤ 1000000) :
    Lt.Spec Try.prog 54 [.pointer (some ⟨gt, 0, none⟩)] w (IsFresh 1 encI 3 w V) := by
  obtain ⟨c0, c1, c2, c3⟩ := trC hS
  have hR1 := hS.row (i := 1) rfl
  rw [← hl] at c0
  refine Spec.of _ Try.func54 rfl Try.ntmps54 (by kernel_rfl) rfl ?_
  repeat' (first
    | (apply WL.nilc; exact rfl; exact rfl; exact rfl)
    | (apply WL.eqNilS tOk; exact rfl; exact rfl; exact rfl; exact rfl; exact rfl; exact rfl)
    | (apply WL.neNilS tOk; exact rfl; exact rfl; exact rfl; exact rfl; exact rfl; exact rfl)
    | (apply WL.eqNil tOk; exact rfl; exact rfl; exact rfl; exact rfl; exact rfl; exact rfl)
    | (apply WL.neNil tOk; exact rfl; exact rfl; exact rfl; exact rfl; exact rfl; exact rfl)
    | ((show WL _ _ _ (⟨_, .call ⟨.value (.func 90), _, _⟩, _, _, _, _⟩ :: _) _ _ _); apply WL.call; exact rfl; exact rfl; exact rfl; exact rfl; exact slices_CloneI _ _ V _ (Own.row encI_ok hR1) (Own.noneCap hR1) (by omega); rintro v' w' ⟨hx, a', cap', rfl, hO⟩)
    | (show WL _ _ _ _ _ _ _; first | apply WL.nil | (apply WL.pev tOk; exact rfl; exact rfl; exact rfl) | (apply WL.load tOk; exact rfl; exact rfl; exact rfl; exact rfl; exact rfl; (first | assumption | (focus (apply Ext.cell; rotate_left; assumption; (exact extA); done)))) | (apply WL.index tOk; exact rfl; exact rfl; exact rfl; exact rfl; exact rfl; exact rfl; exact rfl; exact rfl; assumption; (exact extA); exact rfl; omega; assumption; intro b off h; have hcc := h; first | (obtain ⟨h1, h2, h3, h4, h5, h6, _⟩ := h) | (obtain ⟨h1, h2, h3, _⟩ := h) | (obtain ⟨h1, h2, _⟩ := h) | (obtain ⟨h1, _⟩ := h)) | (apply WL.add; exact rfl; exact rfl; exact rfl; exact rfl; omega) | (apply WL.sub; exact rfl; exact rfl; exact rfl; exact rfl; omega) | (apply WL.mul; exact rfl; exact rfl; exact rfl; exact rfl; omega) | (apply WL.quo; exact rfl; exact rfl; exact rfl; exact rfl; omega) | (apply WL.rem; exact rfl; exact rfl; exact rfl; exact rfl; omega) | (apply WL.loadA tOk; exact rfl; exact rfl; exact rfl; exact rfl; exact rfl; (first | assumption | (focus (apply Cells.ext; rotate_left; assumption; (exact extA); done))); exact rfl) | (apply WL.guardF; exact rfl; exact rfl) | (apply WL.gD; exact rfl; exact rfl; all_goals intro _) | (apply WL.gN; exact rfl; exact rfl; all_goals intro _) | (apply WL.gB; exact rfl; exact rfl; all_goals intro _))
    | (show Z _ _ _ _ _; first | apply Z.tail | apply Z.then_normal | apply Z.block_normal | apply Z.then_exit | apply Z.block_exit | apply Z.then_ret | apply Z.block_ret | (apply Z.block_other; exact rfl))
    | (show W _ _ _ _ _ _; first | apply W.seq | apply W.region | apply W.block | apply W.skip | apply W.ret | apply W.exit | (apply W.condT; exact rfl) | (apply W.condF; exact rfl) | (apply W.condD; exact rfl; all_goals intro _) | (apply W.condN; exact rfl; all_goals intro _) | (apply W.condB; exact rfl; all_goals intro _)))
  exact Z.body1 Try.results54 rfl fun m => ⟨hx.at m, a', cap', rfl, hO⟩
/-- A variable's level, reason and place. -/
def ofT (n : Nat) (Lr : List T3) (v : Int) : T3 :=
  if v = 0 then (0, -1, -1) else
  match (if 0 < v ∧ v ≤ n then plc v Lr else none) with
  | some i => (match Lr[i]? with | some x => (x.2.1, x.2.2, (i : Int)) | none => (-1, -1, -1))
  | none => (-1, -1, -1)
theorem ofT_set {x : T3} {i : Nat} (hT : TOk n Lr) (hx : Lr[i]? = some x) {v : Int} (hv : x.1 / 2 = v) : ofT n Lr v = (x.2.1, x.2.2, (i : Int)) := by
  have h1 := hT.1 x (List.mem_of_getElem? hx)
  unfold ofT
  rw [if_neg (by omega), if_pos (by omega), ← hv, hT.at_ hx]
  simp only [hx]
theorem ofT_none {v : Int} (hv : v ≠ 0) (h : ¬ (0 < v ∧ v ≤ n) ∨ plc v Lr = none) : ofT n Lr v = (-1, -1, -1) := by
  unfold ofT
  rw [if_neg hv]
  rcases h with h | h
  · rw [if_neg h]
  · rw [h]; split <;> simp_all
theorem ofT_zero : ofT n Lr 0 = (0, -1, -1) := by unfold ofT; rw [if_pos rfl]
theorem vOf_get (hT : TOk n Lr) {v : Int} (h0 : 0 ≤ v) (h1 : v ≤ n) : (vOf n Lr)[v.toNat]? = some (if v = 0 then 0 else valT n Lr (2 * v)) := by
  rw [vOf, tab_get _ (by omega)]
  by_cases hv : v = 0
  · rw [if_pos (by omega), if_pos hv]
  · rw [if_neg (by omega), if_neg hv, show ((v.toNat : Nat) : Int) = v by omega]
set_option maxHeartbeats 4000000 in
theorem trail_of (hS : Lt.Sep B w (trP B gt n av cv (vOf n Lr) am cm M al cl L ae ce E ++ rest)) (hT : TOk n Lr) (hM : MarkOk n Lr M) (hn : n ≤ 1048576) (v : Int) :
    Pure Try.prog 106 [.pointer (some ⟨gt, 0, none⟩), .int .i64 v] w (.agg (enc3 (ofT n Lr v)).toArray) := by
  obtain ⟨c0, c1, c2, c3⟩ := trC hS
  have hR1 := hS.row (i := 1) rfl
  have hR2 := hS.row (i := 2) rfl
  have hl := vOf_len n Lr
  have hlM := hM.1
  by_cases hin : 0 ≤ v ∧ v ≤ n
  · have hg := vOf_get hT hin.1 hin.2
    by_cases hf : v ≠ 0 ∧ plc v Lr = none
    · rw [if_neg hf.1, valT_free (by omega) (by rw [show 2 * v / 2 = v by omega]; exact hf.2)] at hg
      rw [ofT_none hf.1 (.inr hf.2)]
      refine Spec.of _ Try.func106 rfl Try.ntmps106 (by kernel_rfl) rfl ?_
      repeat' (first
        | (apply WL.nilc; exact rfl; exact rfl; exact rfl)
        | (apply WL.eqNilS tOk; exact rfl; exact rfl; exact rfl; exact rfl; exact rfl; exact rfl)
        | (apply WL.neNilS tOk; exact rfl; exact rfl; exact rfl; exact rfl; exact rfl; exact rfl)
        | (apply WL.eqNil tOk; exact rfl; exact rfl; exact rfl; exact rfl; exact rfl; exact rfl)
        | (apply WL.neNil tOk; exact rfl; exact rfl; exact rfl; exact rfl; exact rfl; exact rfl)
        | (apply WL.alloc tOk; exact rfl; exact rfl; exact rfl; intro gb w' hb hge hx)
        | (apply WL.build tOk; exact rfl; exact rfl; exact rfl; exact rfl; exact rfl; exact rfl; exact rfl; kernel_rfl)
        | (apply WL.storeB (w0 := w) tOk; exact rfl; exact rfl; exact rfl; exact rfl; assumption; (exact extA); exact rfl; exact rfl; exact rfl; (exact extA); (first | assumption | omega | (focus (apply Nat.le_trans; rotate_left; assumption; exact Below.size (by (exact extA)); done))); intro w' hb hc hX' hU; have hcc := hc; obtain ⟨h1, h2, _⟩ := hc)
        | (apply WL.indexO tOk; exact rfl; exact rfl; exact rfl; exact rfl; exact rfl; exact rfl; exact rfl; exact rfl; assumption; (exact extA); exact encI_ok; (first | exact rfl | (simp; done) | (simp [*]; done) | omega | (simp only [List.length_set]; omega)); omega; assumption; intro gb ha hc; cases ha; have hcc := hc; first | (obtain ⟨h1, h2, h3, _⟩ := hc) | (obtain ⟨h1, h2, _⟩ := hc) | (obtain ⟨h1, _⟩ := hc))
        | (apply WL.gT; exact rfl; exact rfl; (focus (first | exact dec_true rfl | exact dec_true (by omega) | exact dec_false (by omega); done)))
        | (apply WL.gF; exact rfl; exact rfl; (focus (first | exact dec_true rfl | exact dec_true (by omega) | exact dec_false (by omega); done)))
        | (apply W.condKT; exact rfl; (focus (first | exact dec_true rfl | exact dec_true (by omega) | exact dec_false (by omega); done)))
        | (apply W.condKF; exact rfl; (focus (first | exact dec_true rfl | exact dec_true (by omega) | exact dec_false (by omega); done)))
        | (show WL _ _ _ _ _ _ _; first | apply WL.nil | (apply WL.pev tOk; exact rfl; exact rfl; exact rfl) | (apply WL.load tOk; exact rfl; exact rfl; exact rfl; exact rfl; exact rfl; (first | assumption | (focus (apply Ext.cell; rotate_left; assumption; (exact extA); done)))) | (apply WL.index tOk; exact rfl; exact rfl; exact rfl; exact rfl; exact rfl; exact rfl; exact rfl; exact rfl; assumption; (exact extA); exact rfl; omega; assumption; intro b off h; have hcc := h; first | (obtain ⟨h1, h2, h3, h4, h5, h6, _⟩ := h) | (obtain ⟨h1, h2, h3, _⟩ := h) | (obtain ⟨h1, h2, _⟩ := h) | (obtain ⟨h1, _⟩ := h)) | (apply WL.add; exact rfl; exact rfl; exact rfl; exact rfl; omega) | (apply WL.sub; exact rfl; exact rfl; exact rfl; exact rfl; omega) | (apply WL.mul; exact rfl; exact rfl; exact rfl; exact rfl; omega) | (apply WL.quo; exact rfl; exact rfl; exact rfl; exact rfl; omega) | (apply WL.rem; exact rfl; exact rfl; exact rfl; exact rfl; omega) | (apply WL.loadA tOk; exact rfl; exact rfl; exact rfl; exact rfl; exact rfl; (first | assumption | (focus (apply Cells.ext; rotate_left; assumption; (exact extA); done))); exact rfl) | (apply WL.guardF; exact rfl; exact rfl) | (apply WL.gD; exact rfl; exact rfl; all_goals intro _) | (apply WL.gN; exact rfl; exact rfl; all_goals intro _) | (apply WL.gB; exact rfl; exact rfl; all_goals intro _))
        | (show Z _ _ _ _ _; first | apply Z.tail | apply Z.then_normal | apply Z.block_normal | apply Z.then_exit | apply Z.block_exit | apply Z.then_ret | apply Z.block_ret | (apply Z.block_other; exact rfl))
        | (show W _ _ _ _ _ _; first | apply W.seq | apply W.region | apply W.block | apply W.skip | apply W.ret | apply W.exit | (apply W.condT; exact rfl) | (apply W.condF; exact rfl) | (apply W.condD; exact rfl; all_goals intro _) | (apply W.condN; exact rfl; all_goals intro _) | (apply W.condB; exact rfl; all_goals intro _)))
      exact Z.bodyC tOk Try.results106 rfl rfl rfl rfl hcc fun m => ⟨rfl, Ext.at (by assumption) m⟩
    · have hne : ∃ z y, (vOf n Lr)[v.toNat]? = some z ∧ ¬ z = 2 ∧ M[v.toNat]? = some y ∧ ofT n Lr v = y := by
        by_cases hv : v = 0
        · subst hv
          exact ⟨_, _, hg, by rw [if_pos rfl]; decide, hM.2.1, ofT_zero⟩
        · cases hp : plc v Lr with
          | none => exact absurd ⟨hv, hp⟩ hf
          | some i =>
            obtain ⟨x, hx, hxv⟩ := plc_some hp
            refine ⟨_, _, hg, ?_, by rw [← hxv]; exact hM.2.2 i x hx, ofT_set hT hx hxv⟩
            rw [if_neg hv, valT_set hT (by omega) hx (by omega)]
            split <;> decide
      obtain ⟨z, y, h1, h2, h3, h4⟩ := hne
      rw [h4]
      refine Spec.of _ Try.func106 rfl Try.ntmps106 (by kernel_rfl) rfl ?_
      repeat' (first
        | (apply WL.nilc; exact rfl; exact rfl; exact rfl)
        | (apply WL.eqNilS tOk; exact rfl; exact rfl; exact rfl; exact rfl; exact rfl; exact rfl)
        | (apply WL.neNilS tOk; exact rfl; exact rfl; exact rfl; exact rfl; exact rfl; exact rfl)
        | (apply WL.eqNil tOk; exact rfl; exact rfl; exact rfl; exact rfl; exact rfl; exact rfl)
        | (apply WL.neNil tOk; exact rfl; exact rfl; exact rfl; exact rfl; exact rfl; exact rfl)
        | (apply WL.alloc tOk; exact rfl; exact rfl; exact rfl; intro gb w' hb hge hx)
        | (apply WL.build tOk; exact rfl; exact rfl; exact rfl; exact rfl; exact rfl; exact rfl; exact rfl; kernel_rfl)
        | (apply WL.storeB (w0 := w) tOk; exact rfl; exact rfl; exact rfl; exact rfl; assumption; (exact extA); exact rfl; exact rfl; exact rfl; (exact extA); (first | assumption | omega | (focus (apply Nat.le_trans; rotate_left; assumption; exact Below.size (by (exact extA)); done))); intro w' hb hc hX' hU; have hcc := hc; obtain ⟨h1, h2, _⟩ := hc)
        | (apply WL.indexO tOk; exact rfl; exact rfl; exact rfl; exact rfl; exact rfl; exact rfl; exact rfl; exact rfl; assumption; (exact extA); exact encI_ok; (first | exact rfl | (simp; done) | (simp [*]; done) | omega | (simp only [List.length_set]; omega)); omega; assumption; intro gb ha hc; cases ha; have hcc := hc; first | (obtain ⟨h1, h2, h3, _⟩ := hc) | (obtain ⟨h1, h2, _⟩ := hc) | (obtain ⟨h1, _⟩ := hc))
        | (apply WL.indexO tOk; exact rfl; exact rfl; exact rfl; exact rfl; exact rfl; exact rfl; exact rfl; exact rfl; assumption; (exact extA); exact enc3_ok; (first | exact rfl | (simp; done) | (simp [*]; done) | omega | (simp only [List.length_set]; omega)); omega; assumption; intro gb ha hc; cases ha; have hcc := hc; first | (obtain ⟨h1, h2, h3, _⟩ := hc) | (obtain ⟨h1, h2, _⟩ := hc) | (obtain ⟨h1, _⟩ := hc))
        | (apply WL.gT; exact rfl; exact rfl; (focus (first | exact dec_false h2 | exact dec_true (by omega) | exact dec_false (by omega); done)))
        | (apply WL.gF; exact rfl; exact rfl; (focus (first | exact dec_false h2 | exact dec_true (by omega) | exact dec_false (by omega); done)))
        | (apply W.condKT; exact rfl; (focus (first | exact dec_false h2 | exact dec_true (by omega) | exact dec_false (by omega); done)))
        | (apply W.condKF; exact rfl; (focus (first | exact dec_false h2 | exact dec_true (by omega) | exact dec_false (by omega); done)))
        | (show WL _ _ _ _ _ _ _; first | apply WL.nil | (apply WL.pev tOk; exact rfl; exact rfl; exact rfl) | (apply WL.load tOk; exact rfl; exact rfl; exact rfl; exact rfl; exact rfl; (first | assumption | (focus (apply Ext.cell; rotate_left; assumption; (exact extA); done)))) | (apply WL.index tOk; exact rfl; exact rfl; exact rfl; exact rfl; exact rfl; exact rfl; exact rfl; exact rfl; assumption; (exact extA); exact rfl; omega; assumption; intro b off h; have hcc := h; first | (obtain ⟨h1, h2, h3, h4, h5, h6, _⟩ := h) | (obtain ⟨h1, h2, h3, _⟩ := h) | (obtain ⟨h1, h2, _⟩ := h) | (obtain ⟨h1, _⟩ := h)) | (apply WL.add; exact rfl; exact rfl; exact rfl; exact rfl; omega) | (apply WL.sub; exact rfl; exact rfl; exact rfl; exact rfl; omega) | (apply WL.mul; exact rfl; exact rfl; exact rfl; exact rfl; omega) | (apply WL.quo; exact rfl; exact rfl; exact rfl; exact rfl; omega) | (apply WL.rem; exact rfl; exact rfl; exact rfl; exact rfl; omega) | (apply WL.loadA tOk; exact rfl; exact rfl; exact rfl; exact rfl; exact rfl; (first | assumption | (focus (apply Cells.ext; rotate_left; assumption; (exact extA); done))); exact rfl) | (apply WL.guardF; exact rfl; exact rfl) | (apply WL.gD; exact rfl; exact rfl; all_goals intro _) | (apply WL.gN; exact rfl; exact rfl; all_goals intro _) | (apply WL.gB; exact rfl; exact rfl; all_goals intro _))
        | (show Z _ _ _ _ _; first | apply Z.tail | apply Z.then_normal | apply Z.block_normal | apply Z.then_exit | apply Z.block_exit | apply Z.then_ret | apply Z.block_ret | (apply Z.block_other; exact rfl))
        | (show W _ _ _ _ _ _; first | apply W.seq | apply W.region | apply W.block | apply W.skip | apply W.ret | apply W.exit | (apply W.condT; exact rfl) | (apply W.condF; exact rfl) | (apply W.condD; exact rfl; all_goals intro _) | (apply W.condN; exact rfl; all_goals intro _) | (apply W.condB; exact rfl; all_goals intro _)))
      exact Z.bodyC tOk Try.results106 rfl rfl rfl rfl hcc fun m => ⟨rfl, Ext.at (by assumption) m⟩
  · rw [ofT_none (by omega) (.inl (by omega))]
    refine Spec.of _ Try.func106 rfl Try.ntmps106 (by kernel_rfl) rfl ?_
    repeat' (first
      | (apply WL.nilc; exact rfl; exact rfl; exact rfl)
      | (apply WL.eqNilS tOk; exact rfl; exact rfl; exact rfl; exact rfl; exact rfl; exact rfl)
      | (apply WL.neNilS tOk; exact rfl; exact rfl; exact rfl; exact rfl; exact rfl; exact rfl)
      | (apply WL.eqNil tOk; exact rfl; exact rfl; exact rfl; exact rfl; exact rfl; exact rfl)
      | (apply WL.neNil tOk; exact rfl; exact rfl; exact rfl; exact rfl; exact rfl; exact rfl)
      | (apply WL.alloc tOk; exact rfl; exact rfl; exact rfl; intro gb w' hb hge hx)
      | (apply WL.build tOk; exact rfl; exact rfl; exact rfl; exact rfl; exact rfl; exact rfl; exact rfl; kernel_rfl)
      | (apply WL.storeB (w0 := w) tOk; exact rfl; exact rfl; exact rfl; exact rfl; assumption; (exact extA); exact rfl; exact rfl; exact rfl; (exact extA); (first | assumption | omega | (focus (apply Nat.le_trans; rotate_left; assumption; exact Below.size (by (exact extA)); done))); intro w' hb hc hX' hU; have hcc := hc; obtain ⟨h1, h2, _⟩ := hc)
      | (apply WL.gT; exact rfl; exact rfl; (focus (first | exact dec_true (by omega) | exact dec_false (by omega); done)))
      | (apply WL.gF; exact rfl; exact rfl; (focus (first | exact dec_true (by omega) | exact dec_false (by omega); done)))
      | (apply W.condKT; exact rfl; (focus (first | exact dec_true (by omega) | exact dec_false (by omega); done)))
      | (apply W.condKF; exact rfl; (focus (first | exact dec_true (by omega) | exact dec_false (by omega); done)))
      | (show WL _ _ _ _ _ _ _; first | apply WL.nil | (apply WL.pev tOk; exact rfl; exact rfl; exact rfl) | (apply WL.load tOk; exact rfl; exact rfl; exact rfl; exact rfl; exact rfl; (first | assumption | (focus (apply Ext.cell; rotate_left; assumption; (exact extA); done)))) | (apply WL.index tOk; exact rfl; exact rfl; exact rfl; exact rfl; exact rfl; exact rfl; exact rfl; exact rfl; assumption; (exact extA); exact rfl; omega; assumption; intro b off h; have hcc := h; first | (obtain ⟨h1, h2, h3, h4, h5, h6, _⟩ := h) | (obtain ⟨h1, h2, h3, _⟩ := h) | (obtain ⟨h1, h2, _⟩ := h) | (obtain ⟨h1, _⟩ := h)) | (apply WL.add; exact rfl; exact rfl; exact rfl; exact rfl; omega) | (apply WL.sub; exact rfl; exact rfl; exact rfl; exact rfl; omega) | (apply WL.mul; exact rfl; exact rfl; exact rfl; exact rfl; omega) | (apply WL.quo; exact rfl; exact rfl; exact rfl; exact rfl; omega) | (apply WL.rem; exact rfl; exact rfl; exact rfl; exact rfl; omega) | (apply WL.loadA tOk; exact rfl; exact rfl; exact rfl; exact rfl; exact rfl; (first | assumption | (focus (apply Cells.ext; rotate_left; assumption; (exact extA); done))); exact rfl) | (apply WL.guardF; exact rfl; exact rfl) | (apply WL.gD; exact rfl; exact rfl; all_goals intro _) | (apply WL.gN; exact rfl; exact rfl; all_goals intro _) | (apply WL.gB; exact rfl; exact rfl; all_goals intro _))
      | (show Z _ _ _ _ _; first | apply Z.tail | apply Z.then_normal | apply Z.block_normal | apply Z.then_exit | apply Z.block_exit | apply Z.then_ret | apply Z.block_ret | (apply Z.block_other; exact rfl))
      | (show W _ _ _ _ _ _; first | apply W.seq | apply W.region | apply W.block | apply W.skip | apply W.ret | apply W.exit | (apply W.condT; exact rfl) | (apply W.condF; exact rfl) | (apply W.condD; exact rfl; all_goals intro _) | (apply W.condN; exact rfl; all_goals intro _) | (apply W.condB; exact rfl; all_goals intro _)))
    all_goals exact Z.bodyC tOk Try.results106 rfl rfl rfl rfl hcc fun m => ⟨rfl, Ext.at (by assumption) m⟩
theorem trail_Why (hS : Lt.Sep B w (trP B gt n av cv (vOf n Lr) am cm M al cl L ae ce E ++ rest)) (hT : TOk n Lr) (hM : MarkOk n Lr M) (hn : n ≤ 1048576) (v : Int) :
    Pure Try.prog 56 [.pointer (some ⟨gt, 0, none⟩), .int .i64 v] w (.int .i64 (ofT n Lr v).2.1) := by
  refine Spec.of _ Try.func56 rfl Try.ntmps56 (by kernel_rfl) rfl ?_
  repeat' (first
    | ((show WL _ _ _ (⟨_, .call ⟨.value (.func 106), _, _⟩, _, _, _, _⟩ :: _) _ _ _); apply WL.callP; exact rfl; exact rfl; exact rfl; exact rfl; exact trail_of hS hT hM hn v; intro w' hx)
    | (show WL _ _ _ _ _ _ _; first | apply WL.nil | (apply WL.pev tOk; exact rfl; exact rfl; exact rfl) | (apply WL.load tOk; exact rfl; exact rfl; exact rfl; exact rfl; exact rfl; (first | assumption | (focus (apply Ext.cell; rotate_left; assumption; (exact extA); done)))) | (apply WL.index tOk; exact rfl; exact rfl; exact rfl; exact rfl; exact rfl; exact rfl; exact rfl; exact rfl; assumption; (exact extA); exact rfl; omega; assumption; intro b off h; have hcc := h; first | (obtain ⟨h1, h2, h3, h4, h5, h6, _⟩ := h) | (obtain ⟨h1, h2, h3, _⟩ := h) | (obtain ⟨h1, h2, _⟩ := h) | (obtain ⟨h1, _⟩ := h)) | (apply WL.add; exact rfl; exact rfl; exact rfl; exact rfl; omega) | (apply WL.sub; exact rfl; exact rfl; exact rfl; exact rfl; omega) | (apply WL.mul; exact rfl; exact rfl; exact rfl; exact rfl; omega) | (apply WL.quo; exact rfl; exact rfl; exact rfl; exact rfl; omega) | (apply WL.rem; exact rfl; exact rfl; exact rfl; exact rfl; omega) | (apply WL.loadA tOk; exact rfl; exact rfl; exact rfl; exact rfl; exact rfl; (first | assumption | (focus (apply Cells.ext; rotate_left; assumption; (exact extA); done))); exact rfl) | (apply WL.guardF; exact rfl; exact rfl) | (apply WL.gD; exact rfl; exact rfl; all_goals intro _) | (apply WL.gN; exact rfl; exact rfl; all_goals intro _) | (apply WL.gB; exact rfl; exact rfl; all_goals intro _))
    | (show Z _ _ _ _ _; first | apply Z.tail | apply Z.then_normal | apply Z.block_normal | apply Z.then_exit | apply Z.block_exit | apply Z.then_ret | apply Z.block_ret | (apply Z.block_other; exact rfl))
    | (show W _ _ _ _ _ _; first | apply W.seq | apply W.region | apply W.block | apply W.skip | apply W.ret | apply W.exit | (apply W.condT; exact rfl) | (apply W.condF; exact rfl) | (apply W.condD; exact rfl; all_goals intro _) | (apply W.condN; exact rfl; all_goals intro _) | (apply W.condB; exact rfl; all_goals intro _)))
  exact Z.body1 Try.results56 rfl fun m => ⟨rfl, Ext.at (by assumption) m⟩
theorem trail_Place (hS : Lt.Sep B w (trP B gt n av cv (vOf n Lr) am cm M al cl L ae ce E ++ rest)) (hT : TOk n Lr) (hM : MarkOk n Lr M) (hn : n ≤ 1048576) (v : Int) :
    Pure Try.prog 59 [.pointer (some ⟨gt, 0, none⟩), .int .i64 v] w (.int .i64 (ofT n Lr v).2.2) := by
  refine Spec.of _ Try.func59 rfl Try.ntmps59 (by kernel_rfl) rfl ?_
  repeat' (first
    | ((show WL _ _ _ (⟨_, .call ⟨.value (.func 106), _, _⟩, _, _, _, _⟩ :: _) _ _ _); apply WL.callP; exact rfl; exact rfl; exact rfl; exact rfl; exact trail_of hS hT hM hn v; intro w' hx)
    | (show WL _ _ _ _ _ _ _; first | apply WL.nil | (apply WL.pev tOk; exact rfl; exact rfl; exact rfl) | (apply WL.load tOk; exact rfl; exact rfl; exact rfl; exact rfl; exact rfl; (first | assumption | (focus (apply Ext.cell; rotate_left; assumption; (exact extA); done)))) | (apply WL.index tOk; exact rfl; exact rfl; exact rfl; exact rfl; exact rfl; exact rfl; exact rfl; exact rfl; assumption; (exact extA); exact rfl; omega; assumption; intro b off h; have hcc := h; first | (obtain ⟨h1, h2, h3, h4, h5, h6, _⟩ := h) | (obtain ⟨h1, h2, h3, _⟩ := h) | (obtain ⟨h1, h2, _⟩ := h) | (obtain ⟨h1, _⟩ := h)) | (apply WL.add; exact rfl; exact rfl; exact rfl; exact rfl; omega) | (apply WL.sub; exact rfl; exact rfl; exact rfl; exact rfl; omega) | (apply WL.mul; exact rfl; exact rfl; exact rfl; exact rfl; omega) | (apply WL.quo; exact rfl; exact rfl; exact rfl; exact rfl; omega) | (apply WL.rem; exact rfl; exact rfl; exact rfl; exact rfl; omega) | (apply WL.loadA tOk; exact rfl; exact rfl; exact rfl; exact rfl; exact rfl; (first | assumption | (focus (apply Cells.ext; rotate_left; assumption; (exact extA); done))); exact rfl) | (apply WL.guardF; exact rfl; exact rfl) | (apply WL.gD; exact rfl; exact rfl; all_goals intro _) | (apply WL.gN; exact rfl; exact rfl; all_goals intro _) | (apply WL.gB; exact rfl; exact rfl; all_goals intro _))
    | (show Z _ _ _ _ _; first | apply Z.tail | apply Z.then_normal | apply Z.block_normal | apply Z.then_exit | apply Z.block_exit | apply Z.then_ret | apply Z.block_ret | (apply Z.block_other; exact rfl))
    | (show W _ _ _ _ _ _; first | apply W.seq | apply W.region | apply W.block | apply W.skip | apply W.ret | apply W.exit | (apply W.condT; exact rfl) | (apply W.condF; exact rfl) | (apply W.condD; exact rfl; all_goals intro _) | (apply W.condN; exact rfl; all_goals intro _) | (apply W.condB; exact rfl; all_goals intro _)))
  exact Z.body1 Try.results59 rfl fun m => ⟨rfl, Ext.at (by assumption) m⟩
end
end Go.Proofs.Ytmaekaflpbenmaa
namespace Go.Proofs.Ytmaekaflpbenmaa
open Go Go.Lt Go.RowKit
set_option linter.unusedVariables false
set_option linter.unusedSimpArgs false

/-- What comes of letting a literal be so. -/
def setE (n : Nat) (Lr : List T3) (l : Int) : Int :=
  if l < 0 ∨ (n : Int) < l / 2 then 1 else if valT n Lr l = 1 then 7 else if valT n Lr l = 0 then 11 else 0
def setT (n : Nat) (Lr : List T3) (l lev y : Int) : List T3 := if setE n Lr l = 0 then Lr ++ [(l, lev, y)] else Lr
theorem setE_zero {n : Nat} {Lr : List T3} {l : Int} (h : ¬ (l < 0 ∨ (n : Int) < l / 2)) (h1 : ¬ valT n Lr l = 1) (h0 : ¬ valT n Lr l = 0) : setE n Lr l = 0 := by unfold setE; rw [if_neg h, if_neg h1, if_neg h0]
theorem setE_pos {n : Nat} {Lr : List T3} {l : Int} (h : setE n Lr l = 0) : 1 < l ∧ l / 2 ≤ n ∧ valT n Lr l = 2 := by
  unfold setE at h
  split at h
  · cases h
  · split at h
    · cases h
    · split at h
      · cases h
      · have h3 := valT_range n Lr l
        refine ⟨?_, by omega, by omega⟩
        rcases Int.lt_or_le 1 l with h4 | h4
        · exact h4
        · have : valT n Lr l = l := by unfold valT; rw [if_pos (by omega)]
          omega
theorem plc_of_free {n : Nat} {Lr : List T3} {l : Int} (hT : TOk n Lr) (h : 1 < l ∧ l / 2 ≤ n) (hv : valT n Lr l = 2) : plc (l / 2) Lr = none := by
  cases hp : plc (l / 2) Lr with
  | none => rfl
  | some i =>
    obtain ⟨x, hx, hxv⟩ := plc_some hp
    rw [valT_set hT h hx hxv] at hv
    split at hv <;> cases hv
theorem tok_push {n : Nat} {Lr : List T3} {l lev y : Int} (hT : TOk n Lr) (h : 1 < l ∧ l / 2 ≤ n) (hp : plc (l / 2) Lr = none) : TOk n (Lr ++ [(l, lev, y)]) := by
  have hn := plc_none.1 hp
  refine ⟨fun x hx => ?_, List.pairwise_append.2 ⟨hT.2, List.pairwise_singleton _ _, fun a ha b hb => ?_⟩⟩
  · rcases List.mem_append.1 hx with hx | hx
    · exact hT.1 x hx
    · rw [List.mem_singleton.1 hx]; exact ⟨by show 2 ≤ l; omega, h.2⟩
  · rw [List.mem_singleton.1 hb]; exact hn a ha
theorem plc_snoc_ne {x : T3} {v : Int} {L : List T3} (h : x.1 / 2 ≠ v) : plc v (L ++ [x]) = plc v L := by
  rw [plc_snoc]
  cases plc v L with
  | some i => rfl
  | none => simp only; rw [if_neg h]
theorem valT_snoc {n : Nat} {Lr : List T3} {x : T3} {l : Int} (h : x.1 / 2 ≠ l / 2) : valT n (Lr ++ [x]) l = valT n Lr l := by
  unfold valT
  rw [plc_snoc_ne h]
  by_cases h1 : l = 0 ∨ l = 1
  · rw [if_pos h1, if_pos h1]
  · rw [if_neg h1, if_neg h1]
    by_cases h2 : 1 < l ∧ l / 2 ≤ (n : Int)
    · rw [if_pos h2]
      cases hp : plc (l / 2) Lr with
      | none => rfl
      | some i =>
        obtain ⟨y, hy, _⟩ := plc_some hp
        simp only
        rw [List.getElem?_append_left (lt_of_get hy)]
    · rw [if_neg h2]
theorem vOf_push {n : Nat} {Lr : List T3} {l lev y : Int} (hT : TOk n Lr) (h : 1 < l ∧ l / 2 ≤ n) (hp : plc (l / 2) Lr = none) : (vOf n Lr).set (l / 2).toNat (1 - l % 2) = vOf n (Lr ++ [(l, lev, y)]) := by
  have hT' := tok_push hT (lev := lev) (y := y) h hp
  refine tab_set fun u hu => ?_
  by_cases hu0 : u = 0
  · rw [if_pos hu0, if_neg (by omega), if_pos hu0]
  · rw [if_neg hu0, if_neg hu0]
    by_cases he : u = (l / 2).toNat
    · rw [if_pos he, valT_set hT' (x := (l, lev, y)) (i := Lr.length) (by omega) (by simp) (by show l / 2 = 2 * (u : Int) / 2; omega)]
      show (if l = 2 * (u : Int) then (1 : Int) else 0) = 1 - l % 2
      split <;> omega
    · rw [if_neg he, valT_snoc (by show l / 2 ≠ 2 * (u : Int) / 2; omega)]
theorem mark_push {n : Nat} {Lr M : List T3} {l lev y : Int} (hT : TOk n Lr) (hM : MarkOk n Lr M) (h : 1 < l ∧ l / 2 ≤ n) (hp : plc (l / 2) Lr = none) : MarkOk n (Lr ++ [(l, lev, y)]) (M.set (l / 2).toNat (lev, y, (Lr.length : Int))) := by
  refine ⟨by rw [List.length_set]; exact hM.1, ?_, fun i x hx => ?_⟩
  · rw [List.getElem?_set_ne (by omega)]; exact hM.2.1
  · have hi := lt_of_get hx
    simp only [List.length_append, List.length_cons, List.length_nil] at hi
    by_cases h1 : i < Lr.length
    · rw [List.getElem?_append_left h1] at hx
      have hb := hT.1 x (List.mem_of_getElem? hx)
      have hne := plc_none.1 hp x (List.mem_of_getElem? hx)
      rw [List.getElem?_set_ne (by omega)]
      exact hM.2.2 i x hx
    · obtain rfl : i = Lr.length := by omega
      simp at hx; subst hx
      rw [List.getElem?_set_self (by rw [hM.1]; show (l / 2).toNat < n + 1; omega)]

theorem TrAt.mk {B : Nat} {w : World} {gt n : Nat} {Lr : List T3} {V L E E' : List Int} {rest : List Piece} {av am al ae : Option Addr} {cv cm cl ce nl ne : Nat} {M : List T3}
    (hS : Lt.Sep B w (trPn B gt n av cv V am cm M al cl nl L ae ce ne E' ++ rest)) (hM : MarkOk n Lr M) (hV : V = vOf n Lr) (hL : L = Lr.map (·.1)) (hnl : nl = Lr.length) (hE : E' = E) (hne : ne = E.length) : TrAt B w gt n Lr E rest := by
  subst hV; subst hL; subst hE; subst hne; subst hnl
  exact ⟨av, cv, am, cm, M, al, cl, ae, ce, hM, by
    have h : (Lr.map (·.1)).length = Lr.length := List.length_map _
    unfold trP; rw [h]; exact hS⟩
section
variable {gt n : Nat} {w w0 : World} {av am al ae : Option Addr} {cv cm cl ce : Nat} {M Lr : List T3} {E : List Int} {rest : List Piece}
set_option maxHeartbeats 8000000 in
set_option maxRecDepth 8000 in
theorem trail_Set (hX : Ext w0 w) (hS : Lt.Sep w0.heap.size w (trP w0.heap.size gt n av cv (vOf n Lr) am cm M al cl (Lr.map (·.1)) ae ce E ++ rest)) (hT : TOk n Lr) (hM : MarkOk n Lr M) (hn : n ≤ 1048576) (hL : Lr.length ≤ 1048576) (l y : Int) (hl : l ≤ 9223372036854775807) :
    Lt.Spec Try.prog 52 [.pointer (some ⟨gt, 0, none⟩), .int .i64 l, .int .i64 y] w (fun v w' => Ext w0 w' ∧ v = .int .i64 (setE n Lr l) ∧ TrAt w0.heap.size w' gt n (setT n Lr l E.length y) E rest) := by
  have hV := vOf_len n Lr
  have hml := hM.1
  have hgt := (hS.lt (i := 0) rfl rfl).1
  obtain ⟨c0, c1, c2, c3⟩ := trC hS
  have hR1 := hS.row (i := 1) rfl
  have hR2 := hS.row (i := 2) rfl
  have hR3 := hS.row (i := 3) rfl
  have hsame : ∀ m, TrAt w0.heap.size (at' w m) gt n Lr E rest := fun m => ⟨av, cv, am, cm, M, al, cl, ae, ce, hM, hS.ext ((Ext.refl _).at m)⟩
  by_cases hout : l < 0 ∨ (n : Int) < l / 2
  · have e1 : setE n Lr l = 1 := by unfold setE; rw [if_pos hout]
    have e2 : setT n Lr l E.length y = Lr := by unfold setT; rw [e1, if_neg (by decide)]
    rw [e1, e2]
    refine Spec.of _ Try.func52 rfl Try.ntmps52 (by kernel_rfl) rfl ?_
    repeat' (first
      | (apply WL.nilc; exact rfl; exact rfl; exact rfl)
      | (apply WL.eqNilS tOk; exact rfl; exact rfl; exact rfl; exact rfl; exact rfl; exact rfl)
      | (apply WL.neNilS tOk; exact rfl; exact rfl; exact rfl; exact rfl; exact rfl; exact rfl)
      | (apply WL.eqNil tOk; exact rfl; exact rfl; exact rfl; exact rfl; exact rfl; exact rfl)
      | (apply WL.neNil tOk; exact rfl; exact rfl; exact rfl; exact rfl; exact rfl; exact rfl)
      | (apply WL.gT; exact rfl; exact rfl; (focus (first | exact dec_true (by omega) | exact dec_false (by omega); done)))
      | (apply WL.gF; exact rfl; exact rfl; (focus (first | exact dec_true (by omega) | exact dec_false (by omega); done)))
      | (apply W.condKT; exact rfl; (focus (first | exact dec_true (by omega) | exact dec_false (by omega); done)))
      | (apply W.condKF; exact rfl; (focus (first | exact dec_true (by omega) | exact dec_false (by omega); done)))
      | (show WL _ _ _ _ _ _ _; first | apply WL.nil | (apply WL.pev tOk; exact rfl; exact rfl; exact rfl) | (apply WL.load tOk; exact rfl; exact rfl; exact rfl; exact rfl; exact rfl; (first | assumption | (focus (apply Ext.cell; rotate_left; assumption; (exact extA); done)))) | (apply WL.index tOk; exact rfl; exact rfl; exact rfl; exact rfl; exact rfl; exact rfl; exact rfl; exact rfl; assumption; (exact extA); exact rfl; omega; assumption; intro b off h; have hcc := h; first | (obtain ⟨h1, h2, h3, h4, h5, h6, _⟩ := h) | (obtain ⟨h1, h2, h3, _⟩ := h) | (obtain ⟨h1, h2, _⟩ := h) | (obtain ⟨h1, _⟩ := h)) | (apply WL.add; exact rfl; exact rfl; exact rfl; exact rfl; omega) | (apply WL.sub; exact rfl; exact rfl; exact rfl; exact rfl; omega) | (apply WL.mul; exact rfl; exact rfl; exact rfl; exact rfl; omega) | (apply WL.quo; exact rfl; exact rfl; exact rfl; exact rfl; omega) | (apply WL.rem; exact rfl; exact rfl; exact rfl; exact rfl; omega) | (apply WL.loadA tOk; exact rfl; exact rfl; exact rfl; exact rfl; exact rfl; (first | assumption | (focus (apply Cells.ext; rotate_left; assumption; (exact extA); done))); exact rfl) | (apply WL.guardF; exact rfl; exact rfl) | (apply WL.gD; exact rfl; exact rfl; all_goals intro _) | (apply WL.gN; exact rfl; exact rfl; all_goals intro _) | (apply WL.gB; exact rfl; exact rfl; all_goals intro _))
      | (show Z _ _ _ _ _; first | apply Z.tail | apply Z.then_normal | apply Z.block_normal | apply Z.then_exit | apply Z.block_exit | apply Z.then_ret | apply Z.block_ret | (apply Z.block_other; exact rfl))
      | (show W _ _ _ _ _ _; first | apply W.seq | apply W.region | apply W.block | apply W.skip | apply W.ret | apply W.exit | (apply W.condT; exact rfl) | (apply W.condF; exact rfl) | (apply W.condD; exact rfl; all_goals intro _) | (apply W.condN; exact rfl; all_goals intro _) | (apply W.condB; exact rfl; all_goals intro _)))
    all_goals exact Z.body1 Try.results52 rfl fun m => ⟨hX.at m, rfl, hsame m⟩
  by_cases h1 : valT n Lr l = 1
  · have e1 : setE n Lr l = 7 := by unfold setE; rw [if_neg hout, if_pos h1]
    have e2 : setT n Lr l E.length y = Lr := by unfold setT; rw [e1, if_neg (by decide)]
    rw [e1, e2]
    refine Spec.of _ Try.func52 rfl Try.ntmps52 (by kernel_rfl) rfl ?_
    repeat' (first
      | (apply WL.nilc; exact rfl; exact rfl; exact rfl)
      | (apply WL.eqNilS tOk; exact rfl; exact rfl; exact rfl; exact rfl; exact rfl; exact rfl)
      | (apply WL.neNilS tOk; exact rfl; exact rfl; exact rfl; exact rfl; exact rfl; exact rfl)
      | (apply WL.eqNil tOk; exact rfl; exact rfl; exact rfl; exact rfl; exact rfl; exact rfl)
      | (apply WL.neNil tOk; exact rfl; exact rfl; exact rfl; exact rfl; exact rfl; exact rfl)
      | ((show WL _ _ _ (⟨_, .call ⟨.value (.func 58), _, _⟩, _, _, _, _⟩ :: _) _ _ _); apply WL.callS; exact rfl; exact rfl; exact rfl; exact rfl; exact trail_Value hS hT hn l)
      | (apply WL.gT; exact rfl; exact rfl; (focus (first | exact dec_true h1 | exact dec_true (by omega) | exact dec_false (by omega); done)))
      | (apply WL.gF; exact rfl; exact rfl; (focus (first | exact dec_true h1 | exact dec_true (by omega) | exact dec_false (by omega); done)))
      | (apply W.condKT; exact rfl; (focus (first | exact dec_true h1 | exact dec_true (by omega) | exact dec_false (by omega); done)))
      | (apply W.condKF; exact rfl; (focus (first | exact dec_true h1 | exact dec_true (by omega) | exact dec_false (by omega); done)))
      | (show WL _ _ _ _ _ _ _; first | apply WL.nil | (apply WL.pev tOk; exact rfl; exact rfl; exact rfl) | (apply WL.load tOk; exact rfl; exact rfl; exact rfl; exact rfl; exact rfl; (first | assumption | (focus (apply Ext.cell; rotate_left; assumption; (exact extA); done)))) | (apply WL.index tOk; exact rfl; exact rfl; exact rfl; exact rfl; exact rfl; exact rfl; exact rfl; exact rfl; assumption; (exact extA); exact rfl; omega; assumption; intro b off h; have hcc := h; first | (obtain ⟨h1, h2, h3, h4, h5, h6, _⟩ := h) | (obtain ⟨h1, h2, h3, _⟩ := h) | (obtain ⟨h1, h2, _⟩ := h) | (obtain ⟨h1, _⟩ := h)) | (apply WL.add; exact rfl; exact rfl; exact rfl; exact rfl; omega) | (apply WL.sub; exact rfl; exact rfl; exact rfl; exact rfl; omega) | (apply WL.mul; exact rfl; exact rfl; exact rfl; exact rfl; omega) | (apply WL.quo; exact rfl; exact rfl; exact rfl; exact rfl; omega) | (apply WL.rem; exact rfl; exact rfl; exact rfl; exact rfl; omega) | (apply WL.loadA tOk; exact rfl; exact rfl; exact rfl; exact rfl; exact rfl; (first | assumption | (focus (apply Cells.ext; rotate_left; assumption; (exact extA); done))); exact rfl) | (apply WL.guardF; exact rfl; exact rfl) | (apply WL.gD; exact rfl; exact rfl; all_goals intro _) | (apply WL.gN; exact rfl; exact rfl; all_goals intro _) | (apply WL.gB; exact rfl; exact rfl; all_goals intro _))
      | (show Z _ _ _ _ _; first | apply Z.tail | apply Z.then_normal | apply Z.block_normal | apply Z.then_exit | apply Z.block_exit | apply Z.then_ret | apply Z.block_ret | (apply Z.block_other; exact rfl))
      | (show W _ _ _ _ _ _; first | apply W.seq | apply W.region | apply W.block | apply W.skip | apply W.ret | apply W.exit | (apply W.condT; exact rfl) | (apply W.condF; exact rfl) | (apply W.condD; exact rfl; all_goals intro _) | (apply W.condN; exact rfl; all_goals intro _) | (apply W.condB; exact rfl; all_goals intro _)))
    exact Z.body1 Try.results52 rfl fun m => ⟨hX.at m, rfl, hsame m⟩
  by_cases h0 : valT n Lr l = 0
  · have e1 : setE n Lr l = 11 := by unfold setE; rw [if_neg hout, if_neg h1, if_pos h0]
    have e2 : setT n Lr l E.length y = Lr := by unfold setT; rw [e1, if_neg (by decide)]
    rw [e1, e2]
    refine Spec.of _ Try.func52 rfl Try.ntmps52 (by kernel_rfl) rfl ?_
    repeat' (first
      | (apply WL.nilc; exact rfl; exact rfl; exact rfl)
      | (apply WL.eqNilS tOk; exact rfl; exact rfl; exact rfl; exact rfl; exact rfl; exact rfl)
      | (apply WL.neNilS tOk; exact rfl; exact rfl; exact rfl; exact rfl; exact rfl; exact rfl)
      | (apply WL.eqNil tOk; exact rfl; exact rfl; exact rfl; exact rfl; exact rfl; exact rfl)
      | (apply WL.neNil tOk; exact rfl; exact rfl; exact rfl; exact rfl; exact rfl; exact rfl)
      | ((show WL _ _ _ (⟨_, .call ⟨.value (.func 58), _, _⟩, _, _, _, _⟩ :: _) _ _ _); apply WL.callS; exact rfl; exact rfl; exact rfl; exact rfl; exact trail_Value hS hT hn l)
      | (apply WL.gT; exact rfl; exact rfl; (focus (first | exact dec_false h1 | exact dec_true h0 | exact dec_true (by omega) | exact dec_false (by omega); done)))
      | (apply WL.gF; exact rfl; exact rfl; (focus (first | exact dec_false h1 | exact dec_true h0 | exact dec_true (by omega) | exact dec_false (by omega); done)))
      | (apply W.condKT; exact rfl; (focus (first | exact dec_false h1 | exact dec_true h0 | exact dec_true (by omega) | exact dec_false (by omega); done)))
      | (apply W.condKF; exact rfl; (focus (first | exact dec_false h1 | exact dec_true h0 | exact dec_true (by omega) | exact dec_false (by omega); done)))
      | (show WL _ _ _ _ _ _ _; first | apply WL.nil | (apply WL.pev tOk; exact rfl; exact rfl; exact rfl) | (apply WL.load tOk; exact rfl; exact rfl; exact rfl; exact rfl; exact rfl; (first | assumption | (focus (apply Ext.cell; rotate_left; assumption; (exact extA); done)))) | (apply WL.index tOk; exact rfl; exact rfl; exact rfl; exact rfl; exact rfl; exact rfl; exact rfl; exact rfl; assumption; (exact extA); exact rfl; omega; assumption; intro b off h; have hcc := h; first | (obtain ⟨h1, h2, h3, h4, h5, h6, _⟩ := h) | (obtain ⟨h1, h2, h3, _⟩ := h) | (obtain ⟨h1, h2, _⟩ := h) | (obtain ⟨h1, _⟩ := h)) | (apply WL.add; exact rfl; exact rfl; exact rfl; exact rfl; omega) | (apply WL.sub; exact rfl; exact rfl; exact rfl; exact rfl; omega) | (apply WL.mul; exact rfl; exact rfl; exact rfl; exact rfl; omega) | (apply WL.quo; exact rfl; exact rfl; exact rfl; exact rfl; omega) | (apply WL.rem; exact rfl; exact rfl; exact rfl; exact rfl; omega) | (apply WL.loadA tOk; exact rfl; exact rfl; exact rfl; exact rfl; exact rfl; (first | assumption | (focus (apply Cells.ext; rotate_left; assumption; (exact extA); done))); exact rfl) | (apply WL.guardF; exact rfl; exact rfl) | (apply WL.gD; exact rfl; exact rfl; all_goals intro _) | (apply WL.gN; exact rfl; exact rfl; all_goals intro _) | (apply WL.gB; exact rfl; exact rfl; all_goals intro _))
      | (show Z _ _ _ _ _; first | apply Z.tail | apply Z.then_normal | apply Z.block_normal | apply Z.then_exit | apply Z.block_exit | apply Z.then_ret | apply Z.block_ret | (apply Z.block_other; exact rfl))
      | (show W _ _ _ _ _ _; first | apply W.seq | apply W.region | apply W.block | apply W.skip | apply W.ret | apply W.exit | (apply W.condT; exact rfl) | (apply W.condF; exact rfl) | (apply W.condD; exact rfl; all_goals intro _) | (apply W.condN; exact rfl; all_goals intro _) | (apply W.condB; exact rfl; all_goals intro _)))
    exact Z.body1 Try.results52 rfl fun m => ⟨hX.at m, rfl, hsame m⟩
  have e1 := setE_zero hout h1 h0
  have e2 : setT n Lr l E.length y = Lr ++ [(l, (E.length : Int), y)] := by unfold setT; rw [e1, if_pos rfl]
  have hp := setE_pos e1
  have hpl := plc_of_free hT ⟨hp.1, hp.2.1⟩ hp.2.2
  have hv2 := vOf_push (lev := E.length) (y := y) hT ⟨hp.1, hp.2.1⟩ hpl
  have hM2 := mark_push (lev := E.length) (y := y) hT hM ⟨hp.1, hp.2.1⟩ hpl
  rw [show (Lr.length : Int) = ((Lr.map (·.1)).length : Int) by rw [List.length_map]] at hM2
  obtain ⟨z1, hz1⟩ := getI (vOf n Lr) (show (l / 2).toNat < (vOf n Lr).length by omega)
  obtain ⟨z2, hz2⟩ := getI M (show (l / 2).toNat < M.length by omega)
  have hLm : (Lr.map (·.1)).length = Lr.length := List.length_map _
  rw [e1, e2]
  have hS0 := hS
  refine Spec.of _ Try.func52 rfl Try.ntmps52 (by kernel_rfl) rfl ?_
  repeat' (first
    | (apply WL.nilc; exact rfl; exact rfl; exact rfl)
    | (apply FL.nilc; exact rfl; exact rfl; exact rfl)
    | (apply WL.eqNilS tOk; exact rfl; exact rfl; exact rfl; exact rfl; exact rfl; exact rfl)
    | (apply WL.neNilS tOk; exact rfl; exact rfl; exact rfl; exact rfl; exact rfl; exact rfl)
    | (apply WL.eqNil tOk; exact rfl; exact rfl; exact rfl; exact rfl; exact rfl; exact rfl)
    | (apply WL.neNil tOk; exact rfl; exact rfl; exact rfl; exact rfl; exact rfl; exact rfl)
    | (apply WL.and1; exact rfl; exact rfl; exact rfl; exact rfl; omega)
    | (apply WL.xorA; exact rfl; exact rfl; exact rfl; exact rfl; omega)
    | (apply FL.and1; exact rfl; exact rfl; exact rfl; exact rfl; omega)
    | (apply FL.xorA; exact rfl; exact rfl; exact rfl; exact rfl; omega)
    | (apply WL.build tOk; exact rfl; exact rfl; exact rfl; exact rfl; exact rfl; exact rfl; exact rfl; kernel_rfl)
    | (apply FL.build tOk; exact rfl; exact rfl; exact rfl; exact rfl; exact rfl; exact rfl; exact rfl; kernel_rfl)
    | ((show WL _ _ _ (⟨_, .call ⟨.value (.func 58), _, _⟩, _, _, _, _⟩ :: _) _ _ _); apply WL.callS; exact rfl; exact rfl; exact rfl; exact rfl; exact trail_Value hS0 hT hn l)
    | ((show WL _ _ _ (⟨_, .call ⟨.value (.func 105), _, _⟩, _, _, _, _⟩ :: _) _ _ _); apply WL.callS; exact rfl; exact rfl; exact rfl; exact rfl; exact trail_Level hS0)
    | (apply WL.gT; exact rfl; exact rfl; (focus (first | exact dec_false h1 | exact dec_false h0 | exact dec_true (by omega) | exact dec_false (by omega); done)))
    | (apply WL.gF; exact rfl; exact rfl; (focus (first | exact dec_false h1 | exact dec_false h0 | exact dec_true (by omega) | exact dec_false (by omega); done)))
    | (apply FL.gT; exact rfl; exact rfl; (focus (first | exact dec_false h1 | exact dec_false h0 | exact dec_true (by omega) | exact dec_false (by omega); done)))
    | (apply FL.gF; exact rfl; exact rfl; (focus (first | exact dec_false h1 | exact dec_false h0 | exact dec_true (by omega) | exact dec_false (by omega); done)))
    | (apply W.condKT; exact rfl; (focus (first | exact dec_false h1 | exact dec_false h0 | exact dec_true (by omega) | exact dec_false (by omega); done)))
    | (apply W.condKF; exact rfl; (focus (first | exact dec_false h1 | exact dec_false h0 | exact dec_true (by omega) | exact dec_false (by omega); done)))
    | (show W _ _ (.region 8 _ _) _ _ _; apply W.regionGB (.fl true 0 (.fl true 1 (.fl true 2 (.fl true 4 (.fl true 5 (.fl true 6 (.fl true 7 (.fl true 8 (.fl true 10 (.fl true 11 (.fl true 12 (.fl true 13 (.fl true 14 (.fl true 15 (.fl true 17 (.fl true 18 (.fl true 19 (.fl true 20 (.fl false 3 (.fl false 9 (.fl false 21 (.fl true 22 (.br 16 (.fl true 23 (.fl true 24 (.br 25 (.fl true 26 (.br 27 .done .stop)) .stop))) .stop))))))))))))))))))))))) [9, 16, 21, 22, 23] (none) tMix; kernel_rfl)
    | (apply WL.storeO (z' := ((((E.length : Int), y, ((Lr.map (·.1)).length : Int)) : T3))) tOk; exact rfl; exact rfl; exact rfl; exact rfl; assumption; (exact extA); exact rfl; exact rfl; exact rfl; exact enc3_ok; assumption; exact rfl; (exact extA); intro w' hO hX' hU; (first | replace hS := Sep.updRow (i := 0) rfl hU hO (.inl rfl) hS (by (exact extA)) (by (first | exact Nat.le_refl _ | exact Below.size (by (exact extA)))) | replace hS := Sep.updRow (i := 1) rfl hU hO (.inl rfl) hS (by (exact extA)) (by (first | exact Nat.le_refl _ | exact Below.size (by (exact extA)))) | replace hS := Sep.updRow (i := 2) rfl hU hO (.inl rfl) hS (by (exact extA)) (by (first | exact Nat.le_refl _ | exact Below.size (by (exact extA)))) | replace hS := Sep.updRow (i := 3) rfl hU hO (.inl rfl) hS (by (exact extA)) (by (first | exact Nat.le_refl _ | exact Below.size (by (exact extA)))) | replace hS := Sep.updRow (i := 4) rfl hU hO (.inl rfl) hS (by (exact extA)) (by (first | exact Nat.le_refl _ | exact Below.size (by (exact extA)))) | replace hS := Sep.updRow (i := 5) rfl hU hO (.inl rfl) hS (by (exact extA)) (by (first | exact Nat.le_refl _ | exact Below.size (by (exact extA))))); (try simp only [List.set_cons_zero, List.set_cons_succ] at hS); (try have hR0 := hS.row (i := 0) rfl); (try have hR1 := hS.row (i := 1) rfl); (try have hR2 := hS.row (i := 2) rfl); (try have hR3 := hS.row (i := 3) rfl); (try have hR4 := hS.row (i := 4) rfl); (try have hC0 := hS.cell (i := 0) rfl); (try have hD0 := (cells_heap hC0).1); (try have hE0 := (cells_heap hC0).2.1); (try have hF0 := (cells_heap hC0).2.2.1); (try have hG0 := (cells_heap hC0).2.2.2.1); (try have hC1 := hS.cell (i := 1) rfl); (try have hD1 := (cells_heap hC1).1); (try have hE1 := (cells_heap hC1).2.1); (try have hF1 := (cells_heap hC1).2.2.1); (try have hG1 := (cells_heap hC1).2.2.2.1); (try have hC2 := hS.cell (i := 2) rfl); (try have hD2 := (cells_heap hC2).1); (try have hE2 := (cells_heap hC2).2.1); (try have hF2 := (cells_heap hC2).2.2.1); (try have hG2 := (cells_heap hC2).2.2.2.1); (try have hC3 := hS.cell (i := 3) rfl); (try have hD3 := (cells_heap hC3).1); (try have hE3 := (cells_heap hC3).2.1); (try have hF3 := (cells_heap hC3).2.2.1); (try have hG3 := (cells_heap hC3).2.2.2.1); (try have hC4 := hS.cell (i := 4) rfl); (try have hD4 := (cells_heap hC4).1); (try have hE4 := (cells_heap hC4).2.1); (try have hF4 := (cells_heap hC4).2.2.1); (try have hG4 := (cells_heap hC4).2.2.2.1); (try have hM0 := hS.map (i := 0) rfl); (try have hM1 := hS.map (i := 1) rfl); (try have hM2 := hS.map (i := 2) rfl); (try have hM3 := hS.map (i := 3) rfl); (try have hM4 := hS.map (i := 4) rfl))
    | (apply WL.storeO tOk; exact rfl; exact rfl; exact rfl; exact rfl; assumption; (exact extA); exact rfl; exact rfl; exact rfl; exact encI_ok; assumption; exact rfl; (exact extA); intro w' hO hX' hU; (first | replace hS := Sep.updRow (i := 0) rfl hU hO (.inl rfl) hS (by (exact extA)) (by (first | exact Nat.le_refl _ | exact Below.size (by (exact extA)))) | replace hS := Sep.updRow (i := 1) rfl hU hO (.inl rfl) hS (by (exact extA)) (by (first | exact Nat.le_refl _ | exact Below.size (by (exact extA)))) | replace hS := Sep.updRow (i := 2) rfl hU hO (.inl rfl) hS (by (exact extA)) (by (first | exact Nat.le_refl _ | exact Below.size (by (exact extA)))) | replace hS := Sep.updRow (i := 3) rfl hU hO (.inl rfl) hS (by (exact extA)) (by (first | exact Nat.le_refl _ | exact Below.size (by (exact extA)))) | replace hS := Sep.updRow (i := 4) rfl hU hO (.inl rfl) hS (by (exact extA)) (by (first | exact Nat.le_refl _ | exact Below.size (by (exact extA)))) | replace hS := Sep.updRow (i := 5) rfl hU hO (.inl rfl) hS (by (exact extA)) (by (first | exact Nat.le_refl _ | exact Below.size (by (exact extA))))); (try simp only [List.set_cons_zero, List.set_cons_succ] at hS); (try have hR0 := hS.row (i := 0) rfl); (try have hR1 := hS.row (i := 1) rfl); (try have hR2 := hS.row (i := 2) rfl); (try have hR3 := hS.row (i := 3) rfl); (try have hR4 := hS.row (i := 4) rfl); (try have hC0 := hS.cell (i := 0) rfl); (try have hD0 := (cells_heap hC0).1); (try have hE0 := (cells_heap hC0).2.1); (try have hF0 := (cells_heap hC0).2.2.1); (try have hG0 := (cells_heap hC0).2.2.2.1); (try have hC1 := hS.cell (i := 1) rfl); (try have hD1 := (cells_heap hC1).1); (try have hE1 := (cells_heap hC1).2.1); (try have hF1 := (cells_heap hC1).2.2.1); (try have hG1 := (cells_heap hC1).2.2.2.1); (try have hC2 := hS.cell (i := 2) rfl); (try have hD2 := (cells_heap hC2).1); (try have hE2 := (cells_heap hC2).2.1); (try have hF2 := (cells_heap hC2).2.2.1); (try have hG2 := (cells_heap hC2).2.2.2.1); (try have hC3 := hS.cell (i := 3) rfl); (try have hD3 := (cells_heap hC3).1); (try have hE3 := (cells_heap hC3).2.1); (try have hF3 := (cells_heap hC3).2.2.1); (try have hG3 := (cells_heap hC3).2.2.2.1); (try have hC4 := hS.cell (i := 4) rfl); (try have hD4 := (cells_heap hC4).1); (try have hE4 := (cells_heap hC4).2.1); (try have hF4 := (cells_heap hC4).2.2.1); (try have hG4 := (cells_heap hC4).2.2.2.1); (try have hM0 := hS.map (i := 0) rfl); (try have hM1 := hS.map (i := 1) rfl); (try have hM2 := hS.map (i := 2) rfl); (try have hM3 := hS.map (i := 3) rfl); (try have hM4 := hS.map (i := 4) rfl))
    | (apply WL.indexO tOk; exact rfl; exact rfl; exact rfl; exact rfl; exact rfl; exact rfl; exact rfl; exact rfl; assumption; (exact extA); exact encI_ok; (first | exact rfl | (simp; done) | (simp [*]; done) | omega | (simp only [List.length_set]; omega)); omega; assumption; intro gb ha hc; cases ha; have hcc := hc; first | (obtain ⟨h1, h2, h3, _⟩ := hc) | (obtain ⟨h1, h2, _⟩ := hc) | (obtain ⟨h1, _⟩ := hc))
    | (apply FL.indexO tOk; exact rfl; exact rfl; exact rfl; exact rfl; exact rfl; exact rfl; exact rfl; exact rfl; assumption; (exact extA); exact encI_ok; (first | exact rfl | (simp; done) | (simp [*]; done) | omega | (simp only [List.length_set]; omega)); omega; assumption; intro gb ha hc; cases ha; have hcc := hc; first | (obtain ⟨h1, h2, h3, _⟩ := hc) | (obtain ⟨h1, h2, _⟩ := hc) | (obtain ⟨h1, _⟩ := hc))
    | (apply WL.indexO tOk; exact rfl; exact rfl; exact rfl; exact rfl; exact rfl; exact rfl; exact rfl; exact rfl; assumption; (exact extA); exact enc3_ok; (first | exact rfl | (simp; done) | (simp [*]; done) | omega | (simp only [List.length_set]; omega)); omega; assumption; intro gb ha hc; cases ha; have hcc := hc; first | (obtain ⟨h1, h2, h3, _⟩ := hc) | (obtain ⟨h1, h2, _⟩ := hc) | (obtain ⟨h1, _⟩ := hc))
    | (apply FL.indexO tOk; exact rfl; exact rfl; exact rfl; exact rfl; exact rfl; exact rfl; exact rfl; exact rfl; assumption; (exact extA); exact enc3_ok; (first | exact rfl | (simp; done) | (simp [*]; done) | omega | (simp only [List.length_set]; omega)); omega; assumption; intro gb ha hc; cases ha; have hcc := hc; first | (obtain ⟨h1, h2, h3, _⟩ := hc) | (obtain ⟨h1, h2, _⟩ := hc) | (obtain ⟨h1, _⟩ := hc))
    | (show WL _ _ _ _ _ _ _; first | apply WL.nil | (apply WL.pev tOk; exact rfl; exact rfl; exact rfl) | (apply WL.load tOk; exact rfl; exact rfl; exact rfl; exact rfl; exact rfl; (first | assumption | (focus (apply Ext.cell; rotate_left; assumption; (exact extA); done)))) | (apply WL.index tOk; exact rfl; exact rfl; exact rfl; exact rfl; exact rfl; exact rfl; exact rfl; exact rfl; assumption; (exact extA); exact rfl; omega; assumption; intro b off h; have hcc := h; first | (obtain ⟨h1, h2, h3, h4, h5, h6, _⟩ := h) | (obtain ⟨h1, h2, h3, _⟩ := h) | (obtain ⟨h1, h2, _⟩ := h) | (obtain ⟨h1, _⟩ := h)) | (apply WL.add; exact rfl; exact rfl; exact rfl; exact rfl; omega) | (apply WL.sub; exact rfl; exact rfl; exact rfl; exact rfl; omega) | (apply WL.mul; exact rfl; exact rfl; exact rfl; exact rfl; omega) | (apply WL.quo; exact rfl; exact rfl; exact rfl; exact rfl; omega) | (apply WL.rem; exact rfl; exact rfl; exact rfl; exact rfl; omega) | (apply WL.loadA tOk; exact rfl; exact rfl; exact rfl; exact rfl; exact rfl; (first | assumption | (focus (apply Cells.ext; rotate_left; assumption; (exact extA); done))); exact rfl) | (apply WL.guardF; exact rfl; exact rfl) | (apply WL.gD; exact rfl; exact rfl; all_goals intro _) | (apply WL.gN; exact rfl; exact rfl; all_goals intro _) | (apply WL.gB; exact rfl; exact rfl; all_goals intro _))
    | (show SG _ _ _ _ _ _ _ _ _; first | apply SG.done | apply SG.stop | (apply SG.fl0; exact rfl) | (apply SG.fl1; exact rfl; (focus ((intro m; first | assumption | (apply Ext.at; (exact extA)) | apply But.of_at; first | exact But.upd (by assumption) | exact But.ext (by (exact extA)) | (refine But.trans ?_ (But.upd (by assumption)); exact But.ext (by (exact extA))) | exact But.at _ _ _); done))) | (apply SG.br1; exact rfl) | (apply SG.br; exact rfl))
    | (show FL _ _ _ _ _ _ _ _; first | apply FL.nilS | (apply FL.pev tOk; exact rfl; exact rfl; exact rfl) | (apply FL.loadG tOk; exact rfl; exact rfl; exact rfl; exact rfl; exact rfl; (first | assumption | (focus (apply Ext.cell; rotate_left; assumption; (exact extA); done))); (first | (focus (intro h; cases h; done)) | (focus (intro h; have h9 := hBC _ h; (try simp only at h9); omega)) | assumption | (focus (intro h; simp only [blk, Option.map_some, Option.some.injEq] at h; omega)))) | (apply FL.index tOk; exact rfl; exact rfl; exact rfl; exact rfl; exact rfl; exact rfl; exact rfl; exact rfl; assumption; (exact extA); exact rfl; omega; assumption; exact List.cons_ne_nil _ _; intro b off h hbl; have hcc := h; first | (obtain ⟨h1, h2, h3, h4, h5, h6, _⟩ := h) | (obtain ⟨h1, h2, h3, _⟩ := h) | (obtain ⟨h1, h2, _⟩ := h) | (obtain ⟨h1, _⟩ := h)) | (apply FL.add; exact rfl; exact rfl; exact rfl; exact rfl; omega) | (apply FL.sub; exact rfl; exact rfl; exact rfl; exact rfl; omega) | (apply FL.mul; exact rfl; exact rfl; exact rfl; exact rfl; omega) | (apply FL.quo; exact rfl; exact rfl; exact rfl; exact rfl; omega) | (apply FL.rem; exact rfl; exact rfl; exact rfl; exact rfl; omega) | (apply FL.loadAG tOk; exact rfl; exact rfl; exact rfl; exact rfl; exact rfl; (first | assumption | (focus (apply Cells.ext; rotate_left; assumption; (exact extA); done))); exact rfl; (first | (focus (intro h; cases h; done)) | (focus (intro h; have h9 := hBC _ h; (try simp only at h9); omega)) | assumption | (focus (intro h; simp only [blk, Option.map_some, Option.some.injEq] at h; omega)))) | (apply FL.guardF; exact rfl; exact rfl) | (apply FL.gD; exact rfl; exact rfl; all_goals intro _) | (apply FL.gN; exact rfl; exact rfl; all_goals intro _) | (apply FL.gB; exact rfl; exact rfl; all_goals intro _))
    | (show Z _ _ _ _ _; first | (apply Z.sgL; exact rfl) | (apply Z.sgE; (focus ((intro m; first | assumption | (apply Ext.at; (exact extA)) | apply But.of_at; first | exact But.upd (by assumption) | exact But.ext (by (exact extA)) | (refine But.trans ?_ (But.upd (by assumption)); exact But.ext (by (exact extA))) | exact But.at _ _ _); done))))
    | (show Z _ _ _ _ _; first | apply Z.tail | apply Z.then_normal | apply Z.block_normal | apply Z.then_exit | apply Z.block_exit | apply Z.then_ret | apply Z.block_ret | (apply Z.block_other; exact rfl))
    | (show W _ _ _ _ _ _; first | apply W.seq | apply W.region | apply W.block | apply W.skip | apply W.ret | apply W.exit | (apply W.condT; exact rfl) | (apply W.condF; exact rfl) | (apply W.condD; exact rfl; all_goals intro _) | (apply W.condN; exact rfl; all_goals intro _) | (apply W.condB; exact rfl; all_goals intro _)))
  repeat' (first
    | (apply WL.nilc; exact rfl; exact rfl; exact rfl)
    | (apply WL.eqNilS tOk; exact rfl; exact rfl; exact rfl; exact rfl; exact rfl; exact rfl)
    | (apply WL.neNilS tOk; exact rfl; exact rfl; exact rfl; exact rfl; exact rfl; exact rfl)
    | (apply WL.eqNil tOk; exact rfl; exact rfl; exact rfl; exact rfl; exact rfl; exact rfl)
    | (apply WL.neNil tOk; exact rfl; exact rfl; exact rfl; exact rfl; exact rfl; exact rfl)
    | (apply WL.lit tOk; exact rfl; exact rfl; exact rfl; exact rfl; exact rfl; exact rfl; (first | exact rfl | kernel_rfl | (simp [Instr.fill, catCells]; done)); exact rfl; intro gb w' hb hge hc hx)
    | (apply WL.append1 (z := (l)) tOk encI_ok; exact rfl; exact rfl; exact rfl; exact rfl; exact rfl; exact rfl; exact rfl; exact rfl; exact rfl; exact rfl; assumption; (exact extA); (first | exact rfl | (simp; done) | (simp [*]; done) | omega | (simp only [List.length_set]; omega)); assumption; exact rfl; exact rfl; (exact extA); (first | omega | (simp; omega) | (simp at *; omega)); intro a' cap' w' hO hX' hU hF; (first | replace hS := Sep.updRow (i := 0) rfl hU hO hF hS (by (exact extA)) (by (first | exact Nat.le_refl _ | exact Below.size (by (exact extA)))) | replace hS := Sep.updRow (i := 1) rfl hU hO hF hS (by (exact extA)) (by (first | exact Nat.le_refl _ | exact Below.size (by (exact extA)))) | replace hS := Sep.updRow (i := 2) rfl hU hO hF hS (by (exact extA)) (by (first | exact Nat.le_refl _ | exact Below.size (by (exact extA)))) | replace hS := Sep.updRow (i := 3) rfl hU hO hF hS (by (exact extA)) (by (first | exact Nat.le_refl _ | exact Below.size (by (exact extA)))) | replace hS := Sep.updRow (i := 4) rfl hU hO hF hS (by (exact extA)) (by (first | exact Nat.le_refl _ | exact Below.size (by (exact extA)))) | replace hS := Sep.updRow (i := 5) rfl hU hO hF hS (by (exact extA)) (by (first | exact Nat.le_refl _ | exact Below.size (by (exact extA))))); (try simp only [List.set_cons_zero, List.set_cons_succ] at hS); (try have hR0 := hS.row (i := 0) rfl); (try have hR1 := hS.row (i := 1) rfl); (try have hR2 := hS.row (i := 2) rfl); (try have hR3 := hS.row (i := 3) rfl); (try have hR4 := hS.row (i := 4) rfl); (try have hC0 := hS.cell (i := 0) rfl); (try have hD0 := (cells_heap hC0).1); (try have hE0 := (cells_heap hC0).2.1); (try have hF0 := (cells_heap hC0).2.2.1); (try have hG0 := (cells_heap hC0).2.2.2.1); (try have hC1 := hS.cell (i := 1) rfl); (try have hD1 := (cells_heap hC1).1); (try have hE1 := (cells_heap hC1).2.1); (try have hF1 := (cells_heap hC1).2.2.1); (try have hG1 := (cells_heap hC1).2.2.2.1); (try have hC2 := hS.cell (i := 2) rfl); (try have hD2 := (cells_heap hC2).1); (try have hE2 := (cells_heap hC2).2.1); (try have hF2 := (cells_heap hC2).2.2.1); (try have hG2 := (cells_heap hC2).2.2.2.1); (try have hC3 := hS.cell (i := 3) rfl); (try have hD3 := (cells_heap hC3).1); (try have hE3 := (cells_heap hC3).2.1); (try have hF3 := (cells_heap hC3).2.2.1); (try have hG3 := (cells_heap hC3).2.2.2.1); (try have hC4 := hS.cell (i := 4) rfl); (try have hD4 := (cells_heap hC4).1); (try have hE4 := (cells_heap hC4).2.1); (try have hF4 := (cells_heap hC4).2.2.1); (try have hG4 := (cells_heap hC4).2.2.2.1); (try have hM0 := hS.map (i := 0) rfl); (try have hM1 := hS.map (i := 1) rfl); (try have hM2 := hS.map (i := 2) rfl); (try have hM3 := hS.map (i := 3) rfl); (try have hM4 := hS.map (i := 4) rfl))
    | (apply WL.storeF (w0 := w0) tOk; exact rfl; exact rfl; exact rfl; exact rfl; assumption; (exact extA); exact rfl; exact rfl; exact rfl; exact rfl; (exact extA); (first | assumption | omega); intro w' hb hX' hU; replace hS := Sep.updCell (i := 0) rfl hU hb hS (by (exact extA)) (by (first | exact Nat.le_refl _ | exact Below.size (by (exact extA)))); (try simp only [List.set_cons_zero, List.set_cons_succ] at hS); (try have hR0 := hS.row (i := 0) rfl); (try have hR1 := hS.row (i := 1) rfl); (try have hR2 := hS.row (i := 2) rfl); (try have hR3 := hS.row (i := 3) rfl); (try have hR4 := hS.row (i := 4) rfl); (try have hC0 := hS.cell (i := 0) rfl); (try have hD0 := (cells_heap hC0).1); (try have hE0 := (cells_heap hC0).2.1); (try have hF0 := (cells_heap hC0).2.2.1); (try have hG0 := (cells_heap hC0).2.2.2.1); (try have hC1 := hS.cell (i := 1) rfl); (try have hD1 := (cells_heap hC1).1); (try have hE1 := (cells_heap hC1).2.1); (try have hF1 := (cells_heap hC1).2.2.1); (try have hG1 := (cells_heap hC1).2.2.2.1); (try have hC2 := hS.cell (i := 2) rfl); (try have hD2 := (cells_heap hC2).1); (try have hE2 := (cells_heap hC2).2.1); (try have hF2 := (cells_heap hC2).2.2.1); (try have hG2 := (cells_heap hC2).2.2.2.1); (try have hC3 := hS.cell (i := 3) rfl); (try have hD3 := (cells_heap hC3).1); (try have hE3 := (cells_heap hC3).2.1); (try have hF3 := (cells_heap hC3).2.2.1); (try have hG3 := (cells_heap hC3).2.2.2.1); (try have hC4 := hS.cell (i := 4) rfl); (try have hD4 := (cells_heap hC4).1); (try have hE4 := (cells_heap hC4).2.1); (try have hF4 := (cells_heap hC4).2.2.1); (try have hG4 := (cells_heap hC4).2.2.2.1); (try have hM0 := hS.map (i := 0) rfl); (try have hM1 := hS.map (i := 1) rfl); (try have hM2 := hS.map (i := 2) rfl); (try have hM3 := hS.map (i := 3) rfl); (try have hM4 := hS.map (i := 4) rfl))
    | (show WL _ _ _ _ _ _ _; first | apply WL.nil | (apply WL.pev tOk; exact rfl; exact rfl; exact rfl) | (apply WL.load tOk; exact rfl; exact rfl; exact rfl; exact rfl; exact rfl; (first | assumption | (focus (apply Ext.cell; rotate_left; assumption; (exact extA); done)))) | (apply WL.index tOk; exact rfl; exact rfl; exact rfl; exact rfl; exact rfl; exact rfl; exact rfl; exact rfl; assumption; (exact extA); exact rfl; omega; assumption; intro b off h; have hcc := h; first | (obtain ⟨h1, h2, h3, h4, h5, h6, _⟩ := h) | (obtain ⟨h1, h2, h3, _⟩ := h) | (obtain ⟨h1, h2, _⟩ := h) | (obtain ⟨h1, _⟩ := h)) | (apply WL.add; exact rfl; exact rfl; exact rfl; exact rfl; omega) | (apply WL.sub; exact rfl; exact rfl; exact rfl; exact rfl; omega) | (apply WL.mul; exact rfl; exact rfl; exact rfl; exact rfl; omega) | (apply WL.quo; exact rfl; exact rfl; exact rfl; exact rfl; omega) | (apply WL.rem; exact rfl; exact rfl; exact rfl; exact rfl; omega) | (apply WL.loadA tOk; exact rfl; exact rfl; exact rfl; exact rfl; exact rfl; (first | assumption | (focus (apply Cells.ext; rotate_left; assumption; (exact extA); done))); exact rfl) | (apply WL.guardF; exact rfl; exact rfl) | (apply WL.gD; exact rfl; exact rfl; all_goals intro _) | (apply WL.gN; exact rfl; exact rfl; all_goals intro _) | (apply WL.gB; exact rfl; exact rfl; all_goals intro _))
    | (show Z _ _ _ _ _; first | apply Z.tail | apply Z.then_normal | apply Z.block_normal | apply Z.then_exit | apply Z.block_exit | apply Z.then_ret | apply Z.block_ret | (apply Z.block_other; exact rfl))
    | (show W _ _ _ _ _ _; first | apply W.seq | apply W.region | apply W.block | apply W.skip | apply W.ret | apply W.exit | (apply W.condT; exact rfl) | (apply W.condF; exact rfl) | (apply W.condD; exact rfl; all_goals intro _) | (apply W.condN; exact rfl; all_goals intro _) | (apply W.condB; exact rfl; all_goals intro _)))
  have e3 : (Lr ++ [(l, (E.length : Int), y)]).map (·.1) = Lr.map (·.1) ++ [l] := by simp
  refine Z.body1 Try.results52 rfl fun m => ⟨hX'.at m, rfl, (TrAt.mk hS hM2 hv2 e3.symm (by simp) rfl rfl).ext ((Ext.refl _).at m)⟩
end
end Go.Proofs.Ytmaekaflpbenmaa
namespace Go.Proofs.Ytmaekaflpbenmaa
open Go Go.Lt Go.RowKit
set_option linter.unusedVariables false
set_option linter.unusedSimpArgs false

/-- What was set up to a level. -/
def keepT (k : Int) (Lr : List T3) : List T3 := Lr.filter fun x => decide (x.2.1 ≤ k)
def Sorted (Lr : List T3) : Prop := Lr.Pairwise fun x y => x.2.1 ≤ y.2.1
/-- The levels, and how many were set up to each. -/
def EOk (Lr : List T3) (E : List Int) : Prop := Sorted Lr ∧ (∀ x ∈ Lr, 0 ≤ x.2.1 ∧ x.2.1 ≤ E.length) ∧ ∀ (k : Nat) (e : Int), E[k]? = some e → e = ((keepT k Lr).length : Int)
section
variable {gt n : Nat} {w w0 : World} {av am al ae : Option Addr} {cv cm cl ce : Nat} {M Lr : List T3} {E : List Int} {rest : List Piece}
end
theorem EOk.nil : EOk [] [] := ⟨List.Pairwise.nil, by simp, fun k e h => by simp at h⟩
end Go.Proofs.Ytmaekaflpbenmaa
namespace Go.Proofs.Ytmaekaflpbenmaa
open Go Go.Lt Go.RowKit
set_option linter.unusedVariables false
set_option linter.unusedSimpArgs false

theorem vOf_ok {n : Nat} {L : List T3} (hT : TOk n L) : OkV (n + 1) (vOf n L) := by
  refine ⟨vOf_len n L, ?_, fun i z hz => ?_⟩
  · rw [vOf, tab_getD _ _ (by omega), if_pos rfl]
  · have hi := lt_of_get hz
    rw [vOf_len] at hi
    rw [vOf, tab_get _ hi] at hz
    rw [← Option.some.inj hz]
    split
    · exact .inl rfl
    · exact valT_range _ _ _
theorem vOf_setV {n : Nat} {L : List T3} {l lev y : Int} (hT : TOk n L) (h : 1 < l ∧ l / 2 ≤ n) (hp : plc (l / 2) L = none) : setV (vOf n L) l = vOf n (L ++ [(l, lev, y)]) := by
  rw [← vOf_push hT h hp]
  unfold setV
  congr 1
  split <;> omega
theorem valT_app {n : Nat} {L : List T3} {l : Int} : ∀ (D : List T3), (∀ y ∈ D, y.1 / 2 ≠ l / 2) → valT n (L ++ D) l = valT n L l := by
  intro D
  induction D generalizing L with
  | nil => intro _; rw [List.append_nil]
  | cons x r ih =>
    intro h
    rw [show L ++ x :: r = (L ++ [x]) ++ r by simp, ih (fun y hy => h y (by simp [hy])), valT_snoc (h x (by simp))]
/-- The literal of a clause that is left, if there is one; whether it is Zero. -/
noncomputable def leftF (V : Int → Int) : Int → Bool → List Int → Int × Bool × Bool
  | l, u, [] => (l, u, !u)
  | l, u, x :: r => if V x = 1 ∨ (V x = 2 ∧ u = true ∧ x ≠ l) then (0, false, false) else if V x = 2 then leftF V x true r else leftF V l u r
theorem leftF_true {V : Int → Int} {vals : List Int} (hV : ∀ x, V x = lit3 vals x) : ∀ (c : List Int) (l : Int), goodL l → (∀ x ∈ c, goodL x) →
    (leftF V l true c = (uC vals l c, true, false) ∧ uC vals l c = l) ∨ (leftF V l true c = (0, false, false) ∧ uC vals l c = -1)
  | [], l, hl, _ => .inl ⟨rfl, rfl⟩
  | x :: r, l, hl, hc => by
    rw [leftF, uC, hV x]
    have hx := hc x (by simp)
    have hr : ∀ y ∈ r, goodL y := fun y hy => hc y (by simp [hy])
    by_cases h1 : lit3 vals x = 1
    · right; rw [if_pos (.inl h1), if_pos (.inl h1)]; exact ⟨rfl, rfl⟩
    · by_cases h2 : lit3 vals x = 2
      · by_cases h3 : x = l
        · subst h3
          rw [if_neg (fun h => h.elim h1 (fun h => h.2.2 rfl)), if_pos h2, if_neg (fun h => h.elim h1 (fun h => h.2.elim (fun h => h hx) (fun h => h.2 rfl))), if_pos h2]
          exact leftF_true hV r x hx hr
        · right
          rw [if_pos (.inr ⟨h2, rfl, h3⟩), if_pos (.inr ⟨h2, .inr ⟨hl.1, fun h => h3 h.symm⟩⟩)]; exact ⟨rfl, rfl⟩
      · rw [if_neg (fun h => h.elim h1 (fun h => h2 h.1)), if_neg h2, if_neg (fun h => h.elim h1 (fun h => h2 h.1)), if_neg h2]
        exact leftF_true hV r l hl hr
/-- What is left of a clause: one literal, none as it is Zero, or nothing is said. -/
theorem leftF_ok {V : Int → Int} {vals : List Int} (hV : ∀ x, V x = lit3 vals x) : ∀ (c : List Int), (∀ x ∈ c, goodL x) →
    (leftF V 0 false c = (uC vals (-1) c, true, false) ∧ 0 ≤ uC vals (-1) c ∧ vC vals 0 c ≠ 0) ∨ (leftF V 0 false c = (0, false, true) ∧ vC vals 0 c = 0) ∨ (leftF V 0 false c = (0, false, false) ∧ goodC vals c)
  | [], _ => .inr (.inl ⟨rfl, rfl⟩)
  | x :: r, hc => by
    have hx := hc x (by simp)
    have hr : ∀ y ∈ r, goodL y := fun y hy => hc y (by simp [hy])
    rw [leftF, hV x]
    by_cases h1 : lit3 vals x = 1
    · right; right
      rw [if_pos (.inl h1)]
      exact ⟨rfl, goodC_sat ⟨x, by simp, h1⟩⟩
    · have e1 : uC vals (-1) (x :: r) = uC vals (if lit3 vals x = 2 then x else -1) r := by
        rw [uC, if_neg (fun h => h.elim h1 (fun h => h.2.elim (fun h => h hx) (fun h => absurd h.1 (by decide))))]
      have e2 : vC vals 0 (x :: r) = vC vals (if lit3 vals x = 2 then 2 else 0) r := by rw [vC, if_neg h1]
      by_cases h2 : lit3 vals x = 2
      · rw [if_neg (fun h => h.elim h1 (fun h => absurd h.2.1 (by decide))), if_pos h2]
        rw [if_pos h2] at e1 e2
        have hz : vC vals 0 (x :: r) ≠ 0 := by rw [e2]; rcases vC_two (V := vals) r with h | h <;> rw [h] <;> decide
        rcases leftF_true hV r x hx hr with ⟨h3, h4⟩ | ⟨h3, h4⟩
        · left
          rw [h3, e1]
          exact ⟨rfl, by rw [h4]; exact hx.1, hz⟩
        · right; right
          rw [h3]
          exact ⟨rfl, hz, by rw [e1, h4]; decide⟩
      · rw [if_neg (fun h => h.elim h1 (fun h => h2 h.1)), if_neg h2]
        rw [if_neg h2] at e1 e2
        unfold goodC
        rw [e1, e2]
        exact leftF_ok hV r hr

abbrev gVar (k : Nat) (x : Int × Int) (v : Int) : Prop := v = (k : Int) + 1 ∨ v = x.1 / 2 ∨ v = x.2 / 2
theorem clL_var {k r : Nat} {x : Int × Int} {y : Int} (h0 : 0 ≤ x.1) (h1 : 0 ≤ x.2) (h : y ∈ clL ((k : Int) + 1) r x) : gVar k x (y / 2) := by
  have xd : ∀ z : Int, 0 ≤ z → Lt.xor1 z / 2 = z / 2 := fun z hz => by unfold Lt.xor1; split <;> omega
  unfold clL at h
  rw [if_neg (by omega)] at h
  split at h
  · simp only [List.mem_cons, List.not_mem_nil, or_false] at h; rcases h with rfl | rfl
    · left; omega
    · right; left; rfl
  · split at h
    · simp only [List.mem_cons, List.not_mem_nil, or_false] at h; rcases h with rfl | rfl
      · left; omega
      · right; right; rfl
    · simp only [List.mem_cons, List.not_mem_nil, or_false] at h; rcases h with rfl | rfl | rfl
      · left; omega
      · right; left; exact xd _ h0
      · right; right; exact xd _ h1
/-- Nothing is said of a gate if nothing of its variables is still to be looked at. -/
def GIf (n : List (Int × Int)) (s : Nat) (L : List T3) (k : Nat) : Prop :=
  ∀ x, n[k]? = some x → 0 ≤ x.1 → (∀ (i : Nat) (y : T3), s ≤ i → L[i]? = some y → ¬ gVar k x (y.1 / 2)) → ∀ r, r < 3 → goodC (vOf n.length L) (clL ((k : Int) + 1) r x)
theorem goodC_same {V W : List Int} {c : List Int} (h : ∀ x ∈ c, lit3 V x = lit3 W x) : goodC V c → goodC W c := by
  have e1 : ∀ (c : List Int) (o : Int), (∀ x ∈ c, lit3 V x = lit3 W x) → vC V o c = vC W o c := by
    intro c
    induction c with
    | nil => intros; rfl
    | cons x r ih => intro o h; rw [vC, vC, h x (by simp), ih _ (fun y hy => h y (by simp [hy]))]
  have e2 : ∀ (c : List Int) (o : Int), (∀ x ∈ c, lit3 V x = lit3 W x) → uC V o c = uC W o c := by
    intro c
    induction c with
    | nil => intros; rfl
    | cons x r ih => intro o h; rw [uC, uC, h x (by simp), ih _ (fun y hy => h y (by simp [hy]))]
  unfold goodC
  rw [e1 c 0 h, e2 c (-1) h]
  exact id
theorem good_app {n : List (Int × Int)} (hg : GoodNet n) (hn : n.length ≤ 1048576) {L D : List T3} (hT : TOk n.length (L ++ D)) {k : Nat} {x : Int × Int} (hx : n[k]? = some x) (h0 : 0 ≤ x.1) (hD : ∀ y ∈ D, ¬ gVar k x (y.1 / 2)) {r : Nat} (h : goodC (vOf n.length L) (clL ((k : Int) + 1) r x)) : goodC (vOf n.length (L ++ D)) (clL ((k : Int) + 1) r x) := by
  have hgx := hg.gate hx h0
  refine goodC_same (fun z hz => ?_) h
  have hv := clL_var h0 hgx.2.1 hz
  rw [lit3_vOf hT hn, lit3_vOf (hT.sub (List.sublist_append_left L D)) hn]
  exact (valT_app D fun y hy he => hD y hy (he ▸ hv)).symm
theorem GIf.push {n : List (Int × Int)} (hg : GoodNet n) (hn : n.length ≤ 1048576) {s : Nat} {L D : List T3} (hT : TOk n.length (L ++ D)) (hs : s ≤ L.length) {k : Nat} (h : GIf n s L k) : GIf n s (L ++ D) k := by
  intro x hx h0 hp r hr
  have hD : ∀ y ∈ D, ¬ gVar k x (y.1 / 2) := fun y hy => by
    obtain ⟨i, hi, he⟩ := List.getElem_of_mem hy
    exact hp (L.length + i) y (by omega) (by rw [List.getElem?_append_right (by omega)]; simp [hi, he])
  refine good_app hg hn hT hx h0 hD (h x hx h0 (fun i y hi hy => hp i y hi (by rw [List.getElem?_append_left (lt_of_get hy)]; exact hy)) r hr)
theorem GIf.called {n : List (Int × Int)} {s : Nat} {L D : List T3} (hs : s ≤ L.length) {k : Nat} (hv : ∀ x, n[k]? = some x → ∀ y ∈ D, gVar k x (y.1 / 2)) (h : D = [] → ∀ x, n[k]? = some x → ∀ r, r < 3 → goodC (vOf n.length L) (clL ((k : Int) + 1) r x)) : GIf n s (L ++ D) k := by
  intro x hx h0 hp r hr
  cases D with
  | nil => rw [List.append_nil]; exact h rfl x hx r hr
  | cons y D => exact absurd (hv x hx y (by simp)) (hp L.length y hs (by simp))
theorem GIf.up {n : List (Int × Int)} {s : Nat} {L : List T3} {k : Nat} {y : T3} (hy : L[s]? = some y) (hv : ∀ x, n[k]? = some x → 0 ≤ x.1 → ¬ gVar k x (y.1 / 2)) (h : GIf n s L k) : GIf n (s + 1) L k := by
  intro x hx h0 hp
  refine h x hx h0 fun i z hi hz => ?_
  by_cases he : i = s
  · subst he; rw [hy] at hz; cases hz; exact hv x hx h0
  · exact hp i z (by omega) hz
/-- What each thing on a trail was set by. -/
def Rea (n : List (Int × Int)) (s : Nat) (L : List T3) : Prop :=
  ∀ (i : Nat) (y : T3), s ≤ i → L[i]? = some y → ∃ (k r : Nat) (x : Int × Int), n[k]? = some x ∧ 0 ≤ x.1 ∧ r < 3 ∧ y.2.2 = 3 * ((k : Int) + 1) + r ∧ y.1 ∈ clL ((k : Int) + 1) r x ∧ ∀ z ∈ clL ((k : Int) + 1) r x, z ≠ y.1 → valT n.length (L.take i) z = 0
theorem Rea.start (n : List (Int × Int)) (L : List T3) : Rea n L.length L := fun i y hi hy => absurd (lt_of_get hy) (by omega)
theorem Rea.push {n : List (Int × Int)} {s : Nat} {L : List T3} {y : T3} (h : Rea n s L) (hy : ∃ (k r : Nat) (x : Int × Int), n[k]? = some x ∧ 0 ≤ x.1 ∧ r < 3 ∧ y.2.2 = 3 * ((k : Int) + 1) + r ∧ y.1 ∈ clL ((k : Int) + 1) r x ∧ ∀ z ∈ clL ((k : Int) + 1) r x, z ≠ y.1 → valT n.length L z = 0) : Rea n s (L ++ [y]) := by
  intro i q hi hq
  by_cases hlt : i < L.length
  · rw [List.getElem?_append_left hlt] at hq
    rw [List.take_append_of_le_length (by omega)]
    exact h i q hi hq
  · rw [List.getElem?_append_right (by omega)] at hq
    have : i - L.length = 0 := by have := lt_of_get hq; simpa using this
    obtain rfl : i = L.length := by omega
    simp at hq; subst hq
    rw [List.take_left']
    · exact hy
    · rfl
end Go.Proofs.Ytmaekaflpbenmaa
namespace Go.Proofs.Ytmaekaflpbenmaa
open Go Go.Lt Go.RowKit
set_option linter.unusedVariables false
set_option linter.unusedSimpArgs false

theorem kid_node {n : List (Int × Int)} {k : Nat} {x : Int × Int} (hx : n[k]? = some x) (u : Nat) : Kid n (k + 1) u ↔ 0 ≤ x.1 ∧ (u = (x.1 / 2).toNat ∨ u = (x.2 / 2).toNat) := by
  constructor
  · rintro ⟨q, y, hq, hy, h⟩
    obtain rfl : k = q := by omega
    rw [hx] at hy; cases hy
    exact h
  · intro h; exact ⟨k, x, rfl, hx, h⟩
end Go.Proofs.Ytmaekaflpbenmaa
namespace Go.Proofs.Ytmaekaflpbenmaa
open Go Go.Lt Go.RowKit
set_option linter.unusedVariables false
set_option linter.unusedSimpArgs false

abbrev fnv (f : Nat) (us : List Value) : Value := .func (.func f) #[] us.toArray
theorem slices_IndexFunc (a : Option Addr) (cap : Nat) (l : List Int) (f : Nat) (us : List Value) (p : Int → Bool) (w w0 : World) (R : Row 1 encI w0 a l) (E : Ext w0 w)
    (hf : ∀ x ∈ l, Still Try.prog f ([.int .i64 x] ++ us) w (.bool (p x))) :
    Still Try.prog 140 [.slice a l.length cap, fnv f us] w (.int .i64 (if l.findIdx p < l.length then (l.findIdx p : Int) else -1)) := by
  have hlen := R.len
  refine Spec.of _ Try.func140 rfl Try.ntmps140 (by kernel_rfl) rfl ?_
  repeat' (first
    | (show WL _ _ _ _ _ _ _; first | apply WL.nil | (apply WL.pev tOk; exact rfl; exact rfl; exact rfl) | (apply WL.load tOk; exact rfl; exact rfl; exact rfl; exact rfl; exact rfl; (first | assumption | (focus (apply Ext.cell; rotate_left; assumption; (exact extA); done)))) | (apply WL.index tOk; exact rfl; exact rfl; exact rfl; exact rfl; exact rfl; exact rfl; exact rfl; exact rfl; assumption; (exact extA); exact rfl; omega; assumption; intro b off h; have hcc := h; first | (obtain ⟨h1, h2, h3, h4, h5, h6, _⟩ := h) | (obtain ⟨h1, h2, h3, _⟩ := h) | (obtain ⟨h1, h2, _⟩ := h) | (obtain ⟨h1, _⟩ := h)) | (apply WL.add; exact rfl; exact rfl; exact rfl; exact rfl; omega) | (apply WL.sub; exact rfl; exact rfl; exact rfl; exact rfl; omega) | (apply WL.mul; exact rfl; exact rfl; exact rfl; exact rfl; omega) | (apply WL.quo; exact rfl; exact rfl; exact rfl; exact rfl; omega) | (apply WL.rem; exact rfl; exact rfl; exact rfl; exact rfl; omega) | (apply WL.loadA tOk; exact rfl; exact rfl; exact rfl; exact rfl; exact rfl; (first | assumption | (focus (apply Cells.ext; rotate_left; assumption; (exact extA); done))); exact rfl) | (apply WL.guardF; exact rfl; exact rfl) | (apply WL.gD; exact rfl; exact rfl; all_goals intro _) | (apply WL.gN; exact rfl; exact rfl; all_goals intro _) | (apply WL.gB; exact rfl; exact rfl; all_goals intro _))
    | (show Z _ _ _ _ _; first | apply Z.tail | apply Z.then_normal | apply Z.block_normal | apply Z.then_exit | apply Z.block_exit | apply Z.then_ret | apply Z.block_ret | (apply Z.block_other; exact rfl))
    | (show W _ _ _ _ _ _; first | apply W.seq | apply W.region | apply W.block | apply W.skip | apply W.ret | apply W.exit | (apply W.condT; exact rfl) | (apply W.condF; exact rfl) | (apply W.condD; exact rfl; all_goals intro _) | (apply W.condN; exact rfl; all_goals intro _) | (apply W.condB; exact rfl; all_goals intro _)))
  refine W.loop1 l.length (fun k => k ≤ l.length ∧ ∀ i x, i < k → l[i]? = some x → p x = false) (fun k => [(0, .slice a l.length cap), (1, fnv f us), (7, .int .i64 l.length), (8, .int .i64 k)]) ⟨by omega, fun i x hi => by omega⟩ (fun k h => h.1) ⟨rfl, rfl, rfl, rfl, trivial⟩ ?_
  rintro k ⟨hk, hno⟩
  by_cases hlt : k < l.length
  · obtain ⟨x, hx⟩ := getI l hlt
    have hfx := hf x (List.mem_of_getElem? hx)
    have hlx : l[k] = x := by rw [List.getElem?_eq_getElem hlt] at hx; exact Option.some.inj hx
    cases hp : p x with
    | true =>
      rw [hp] at hfx
      repeat' (first
        | (apply WL.gT; exact rfl; exact rfl; (focus (exact dec_true (by omega); done)))
        | (apply WL.gF; exact rfl; exact rfl; (focus (exact dec_true (by omega); done)))
        | (apply W.condKT; exact rfl; (focus (exact dec_true (by omega); done)))
        | (apply W.condKF; exact rfl; (focus (exact dec_true (by omega); done)))
        | (apply WL.callS; exact rfl; exact rfl; exact rfl; exact rfl; exact hfx)
        | (show WL _ _ _ _ _ _ _; first | apply WL.nil | (apply WL.pev tOk; exact rfl; exact rfl; exact rfl) | (apply WL.load tOk; exact rfl; exact rfl; exact rfl; exact rfl; exact rfl; (first | assumption | (focus (apply Ext.cell; rotate_left; assumption; (exact extA); done)))) | (apply WL.index tOk; exact rfl; exact rfl; exact rfl; exact rfl; exact rfl; exact rfl; exact rfl; exact rfl; assumption; (exact extA); exact rfl; omega; assumption; intro b off h; have hcc := h; first | (obtain ⟨h1, h2, h3, h4, h5, h6, _⟩ := h) | (obtain ⟨h1, h2, h3, _⟩ := h) | (obtain ⟨h1, h2, _⟩ := h) | (obtain ⟨h1, _⟩ := h)) | (apply WL.add; exact rfl; exact rfl; exact rfl; exact rfl; omega) | (apply WL.sub; exact rfl; exact rfl; exact rfl; exact rfl; omega) | (apply WL.mul; exact rfl; exact rfl; exact rfl; exact rfl; omega) | (apply WL.quo; exact rfl; exact rfl; exact rfl; exact rfl; omega) | (apply WL.rem; exact rfl; exact rfl; exact rfl; exact rfl; omega) | (apply WL.loadA tOk; exact rfl; exact rfl; exact rfl; exact rfl; exact rfl; (first | assumption | (focus (apply Cells.ext; rotate_left; assumption; (exact extA); done))); exact rfl) | (apply WL.guardF; exact rfl; exact rfl) | (apply WL.gD; exact rfl; exact rfl; all_goals intro _) | (apply WL.gN; exact rfl; exact rfl; all_goals intro _) | (apply WL.gB; exact rfl; exact rfl; all_goals intro _))
        | (show Z _ _ _ _ _; first | apply Z.tail | apply Z.then_normal | apply Z.block_normal | apply Z.then_exit | apply Z.block_exit | apply Z.then_ret | apply Z.block_ret | (apply Z.block_other; exact rfl))
        | (show W _ _ _ _ _ _; first | apply W.seq | apply W.region | apply W.block | apply W.skip | apply W.ret | apply W.exit | (apply W.condT; exact rfl) | (apply W.condF; exact rfl) | (apply W.condD; exact rfl; all_goals intro _) | (apply W.condN; exact rfl; all_goals intro _) | (apply W.condB; exact rfl; all_goals intro _)))
      have hi : l.findIdx p = k := by
        refine (List.findIdx_eq hlt).2 ⟨by rw [hlx]; exact hp, fun j hj => ?_⟩
        exact hno j l[j] hj (List.getElem?_eq_getElem (by omega))
      exact Z.body1 Try.results140 rfl fun m => ⟨by rw [hi, if_pos hlt], m, rfl⟩
    | false =>
      rw [hp] at hfx
      repeat' (first
        | (apply WL.gT; exact rfl; exact rfl; (focus (exact dec_true (by omega); done)))
        | (apply WL.gF; exact rfl; exact rfl; (focus (exact dec_true (by omega); done)))
        | (apply W.condKT; exact rfl; (focus (exact dec_true (by omega); done)))
        | (apply W.condKF; exact rfl; (focus (exact dec_true (by omega); done)))
        | (apply WL.callS; exact rfl; exact rfl; exact rfl; exact rfl; exact hfx)
        | (show WL _ _ _ _ _ _ _; first | apply WL.nil | (apply WL.pev tOk; exact rfl; exact rfl; exact rfl) | (apply WL.load tOk; exact rfl; exact rfl; exact rfl; exact rfl; exact rfl; (first | assumption | (focus (apply Ext.cell; rotate_left; assumption; (exact extA); done)))) | (apply WL.index tOk; exact rfl; exact rfl; exact rfl; exact rfl; exact rfl; exact rfl; exact rfl; exact rfl; assumption; (exact extA); exact rfl; omega; assumption; intro b off h; have hcc := h; first | (obtain ⟨h1, h2, h3, h4, h5, h6, _⟩ := h) | (obtain ⟨h1, h2, h3, _⟩ := h) | (obtain ⟨h1, h2, _⟩ := h) | (obtain ⟨h1, _⟩ := h)) | (apply WL.add; exact rfl; exact rfl; exact rfl; exact rfl; omega) | (apply WL.sub; exact rfl; exact rfl; exact rfl; exact rfl; omega) | (apply WL.mul; exact rfl; exact rfl; exact rfl; exact rfl; omega) | (apply WL.quo; exact rfl; exact rfl; exact rfl; exact rfl; omega) | (apply WL.rem; exact rfl; exact rfl; exact rfl; exact rfl; omega) | (apply WL.loadA tOk; exact rfl; exact rfl; exact rfl; exact rfl; exact rfl; (first | assumption | (focus (apply Cells.ext; rotate_left; assumption; (exact extA); done))); exact rfl) | (apply WL.guardF; exact rfl; exact rfl) | (apply WL.gD; exact rfl; exact rfl; all_goals intro _) | (apply WL.gN; exact rfl; exact rfl; all_goals intro _) | (apply WL.gB; exact rfl; exact rfl; all_goals intro _))
        | (show Z _ _ _ _ _; first | apply Z.tail | apply Z.then_normal | apply Z.block_normal | apply Z.then_exit | apply Z.block_exit | apply Z.then_ret | apply Z.block_ret | (apply Z.block_other; exact rfl))
        | (show W _ _ _ _ _ _; first | apply W.seq | apply W.region | apply W.block | apply W.skip | apply W.ret | apply W.exit | (apply W.condT; exact rfl) | (apply W.condF; exact rfl) | (apply W.condD; exact rfl; all_goals intro _) | (apply W.condN; exact rfl; all_goals intro _) | (apply W.condB; exact rfl; all_goals intro _)))
      refine Z.again1 ⟨by omega, fun i y hi hy => ?_⟩ ⟨rfl, rfl, rfl, rfl, trivial⟩
      by_cases hik : i < k
      · exact hno i y hik hy
      · obtain rfl : i = k := by omega
        rw [hx] at hy; cases hy; exact hp
  · repeat' (first
      | (apply WL.gT; exact rfl; exact rfl; (focus (exact dec_false (by omega); done)))
      | (apply WL.gF; exact rfl; exact rfl; (focus (exact dec_false (by omega); done)))
      | (apply W.condKT; exact rfl; (focus (exact dec_false (by omega); done)))
      | (apply W.condKF; exact rfl; (focus (exact dec_false (by omega); done)))
      | (show WL _ _ _ _ _ _ _; first | apply WL.nil | (apply WL.pev tOk; exact rfl; exact rfl; exact rfl) | (apply WL.load tOk; exact rfl; exact rfl; exact rfl; exact rfl; exact rfl; (first | assumption | (focus (apply Ext.cell; rotate_left; assumption; (exact extA); done)))) | (apply WL.index tOk; exact rfl; exact rfl; exact rfl; exact rfl; exact rfl; exact rfl; exact rfl; exact rfl; assumption; (exact extA); exact rfl; omega; assumption; intro b off h; have hcc := h; first | (obtain ⟨h1, h2, h3, h4, h5, h6, _⟩ := h) | (obtain ⟨h1, h2, h3, _⟩ := h) | (obtain ⟨h1, h2, _⟩ := h) | (obtain ⟨h1, _⟩ := h)) | (apply WL.add; exact rfl; exact rfl; exact rfl; exact rfl; omega) | (apply WL.sub; exact rfl; exact rfl; exact rfl; exact rfl; omega) | (apply WL.mul; exact rfl; exact rfl; exact rfl; exact rfl; omega) | (apply WL.quo; exact rfl; exact rfl; exact rfl; exact rfl; omega) | (apply WL.rem; exact rfl; exact rfl; exact rfl; exact rfl; omega) | (apply WL.loadA tOk; exact rfl; exact rfl; exact rfl; exact rfl; exact rfl; (first | assumption | (focus (apply Cells.ext; rotate_left; assumption; (exact extA); done))); exact rfl) | (apply WL.guardF; exact rfl; exact rfl) | (apply WL.gD; exact rfl; exact rfl; all_goals intro _) | (apply WL.gN; exact rfl; exact rfl; all_goals intro _) | (apply WL.gB; exact rfl; exact rfl; all_goals intro _))
      | (show Z _ _ _ _ _; first | apply Z.tail | apply Z.then_normal | apply Z.block_normal | apply Z.then_exit | apply Z.block_exit | apply Z.then_ret | apply Z.block_ret | (apply Z.block_other; exact rfl))
      | (show W _ _ _ _ _ _; first | apply W.seq | apply W.region | apply W.block | apply W.skip | apply W.ret | apply W.exit | (apply W.condT; exact rfl) | (apply W.condF; exact rfl) | (apply W.condD; exact rfl; all_goals intro _) | (apply W.condN; exact rfl; all_goals intro _) | (apply W.condB; exact rfl; all_goals intro _)))
    have hi : ¬ l.findIdx p < l.length := fun h => by
      have := List.findIdx_getElem (w := h)
      rw [hno (l.findIdx p) _ (by omega) (List.getElem?_eq_getElem h)] at this
      cases this
    exact Z.body1 Try.results140 rfl fun m => ⟨by rw [if_neg hi], m, rfl⟩

end Go.Proofs.Ytmaekaflpbenmaa
namespace Go.Proofs.Ytmaekaflpbenmaa
open Go Go.Lt Go.RowKit
set_option linter.unusedVariables false
set_option linter.unusedSimpArgs false

def lstep (s : List Int) (x : Int × Int) : List Int := s ++ [if 0 ≤ x.1 then 1 + max (s.getD (x.1 / 2).toNat 0) (s.getD (x.2 / 2).toNat 0) else 0]
def lto (n : List (Int × Int)) (k : Nat) : List Int := (n.take k).foldl lstep [0]
def levels (n : List (Int × Int)) : List Int := lto n n.length
end Go.Proofs.Ytmaekaflpbenmaa
namespace Go.Proofs.Ytmaekaflpbenmaa
open Go Go.Lt Go.RowKit
set_option linter.unusedVariables false
set_option linter.unusedSimpArgs false

noncomputable def fanTo (n : List (Int × Int)) (v k : Nat) : List Int := sel (k + 1) (fun u => Kid n u v)
noncomputable def fanL (n : List (Int × Int)) (v : Nat) : List Int := fanTo n v n.length
theorem fanTo_zero (n : List (Int × Int)) (v : Nat) : fanTo n v 0 = [] := by
  rw [fanTo, sel_no (fun h => by have := h.le; omega)]; rfl
theorem fanTo_yes {n : List (Int × Int)} {v k : Nat} (h : Kid n (k + 1) v) : fanTo n v (k + 1) = fanTo n v k ++ [((k + 1 : Nat) : Int)] := sel_yes h
theorem fanTo_no {n : List (Int × Int)} {v k : Nat} (h : ¬ Kid n (k + 1) v) : fanTo n v (k + 1) = fanTo n v k := sel_no h
theorem fanTo_len (n : List (Int × Int)) (v k : Nat) : (fanTo n v k).length ≤ k + 1 := sel_le _ _

theorem fan_set {n : List (Int × Int)} {rs : List (RowV Int)} {k i : Nat} {p : Nat → Prop} {f g : Nat → List Int} {q : RowV Int} (hc : ∀ v r, rs[v]? = some r → r.2.2 = f v) (hi : i < rs.length) (hq : q.2.2 = g i) (ho : ∀ v, v ≠ i → g v = f v) : ∀ v r, (rs.set i q)[v]? = some r → r.2.2 = g v := by
  intro v r hr
  rw [List.getElem?_set] at hr
  by_cases h : i = v
  · subst h
    rw [if_pos rfl, if_pos hi] at hr
    rw [← Option.some.inj hr]; exact hq
  · rw [if_neg h] at hr
    rw [ho v (fun hh => h hh.symm)]; exact hc v r hr

set_option maxHeartbeats 4000000 in
theorem cone_Fanouts (a : Option Addr) (cap : Nat) (n : List (Int × Int)) (w : World) (R : Row 2 encN w a n) (hg : GoodNet n) (hn : n.length ≤ 1048576) :
    Lt.Spec Try.prog 102 [.slice a n.length cap] w (IsFreshRR 1 encI 3 23 w (tab (n.length + 1) (fanL n))) := by
  refine Spec.of _ Try.func102 rfl Try.ntmps102 (by kernel_rfl) rfl ?_
  repeat' (first
    | ((apply WL.make (w0 := w) (z := ((none, 0, []) : RowV Int)) tOk; exact rfl; exact rfl; exact rfl; exact rfl; exact rfl; exact rfl; exact rfl; exact rfl; exact rfl; exact encRow_ok; exact rfl; exact rfl; exact (by (exact extA)); omega; intro gb w' hO hge hx))
    | (show WL _ _ _ _ _ _ _; first | apply WL.nil | (apply WL.pev tOk; exact rfl; exact rfl; exact rfl) | (apply WL.load tOk; exact rfl; exact rfl; exact rfl; exact rfl; exact rfl; (first | assumption | (focus (apply Ext.cell; rotate_left; assumption; (exact extA); done)))) | (apply WL.index tOk; exact rfl; exact rfl; exact rfl; exact rfl; exact rfl; exact rfl; exact rfl; exact rfl; assumption; (exact extA); exact rfl; omega; assumption; intro b off h; have hcc := h; first | (obtain ⟨h1, h2, h3, h4, h5, h6, _⟩ := h) | (obtain ⟨h1, h2, h3, _⟩ := h) | (obtain ⟨h1, h2, _⟩ := h) | (obtain ⟨h1, _⟩ := h)) | (apply WL.add; exact rfl; exact rfl; exact rfl; exact rfl; omega) | (apply WL.sub; exact rfl; exact rfl; exact rfl; exact rfl; omega) | (apply WL.mul; exact rfl; exact rfl; exact rfl; exact rfl; omega) | (apply WL.quo; exact rfl; exact rfl; exact rfl; exact rfl; omega) | (apply WL.rem; exact rfl; exact rfl; exact rfl; exact rfl; omega) | (apply WL.loadA tOk; exact rfl; exact rfl; exact rfl; exact rfl; exact rfl; (first | assumption | (focus (apply Cells.ext; rotate_left; assumption; (exact extA); done))); exact rfl) | (apply WL.guardF; exact rfl; exact rfl) | (apply WL.gD; exact rfl; exact rfl; all_goals intro _) | (apply WL.gN; exact rfl; exact rfl; all_goals intro _) | (apply WL.gB; exact rfl; exact rfl; all_goals intro _))
    | (show Z _ _ _ _ _; first | apply Z.tail | apply Z.then_normal | apply Z.block_normal | apply Z.then_exit | apply Z.block_exit | apply Z.then_ret | apply Z.block_ret | (apply Z.block_other; exact rfl))
    | (show W _ _ _ _ _ _; first | apply W.seq | apply W.region | apply W.block | apply W.skip | apply W.ret | apply W.exit | (apply W.condT; exact rfl) | (apply W.condF; exact rfl) | (apply W.condD; exact rfl; all_goals intro _) | (apply W.condN; exact rfl; all_goals intro _) | (apply W.condB; exact rfl; all_goals intro _)))
  have en : ((n.length : Int) + 1).toNat = n.length + 1 := by omega
  rw [en] at hO ⊢
  obtain ⟨g0, rfl⟩ : ∃ x, x = gb := ⟨_, rfl⟩
  have e0l : (List.replicate (n.length + 1) ((none, 0, []) : RowV Int)).length = n.length + 1 := List.length_replicate
  refine W.loopW n.length (fun k w' => k ≤ n.length ∧ Ext w w' ∧ ∃ rs : List (RowV Int), OwnRR 1 encI 3 23 w.heap.size w' (some ⟨g0, 0, none⟩) (n.length + 1) rs ∧ rs.length = n.length + 1 ∧ ∀ v r, rs[v]? = some r → r.2.2 = fanTo n v k)
    (fun k => [(0, .slice a n.length cap), (3, .slice (some ⟨g0, 0, none⟩) (n.length + 1) (n.length + 1)), (12, .slice a n.length cap), (13, .int .i64 n.length), (14, .int .i64 k)]) ⟨by omega, hx, _, OwnRR.start hO, e0l, fun v r hr => ?_⟩ (fun k w' h => h.1) (by repeat' first | exact trivial | (refine And.intro ?_ ?_) | exact rfl | (rw [e0l]; exact rfl)) ?_
  · rw [List.getElem?_replicate] at hr
    split at hr
    · rw [← Option.some.inj hr, fanTo_zero]
    · cases hr
  clear hO
  rintro k w' ⟨hk, hx', rs, hRR, hrl, hrc⟩
  by_cases hlt : k < n.length
  · obtain ⟨x, hxn⟩ := getI n hlt
    have hkid := kid_node hxn
    by_cases h0 : 0 ≤ x.1
    · have hgt := hg.gate hxn h0
      obtain ⟨A, hA⟩ : ∃ A : Nat, x.1 / 2 = A := ⟨(x.1 / 2).toNat, by omega⟩
      obtain ⟨B, hB⟩ : ∃ B : Nat, x.2 / 2 = B := ⟨(x.2 / 2).toNat, by omega⟩
      obtain ⟨r, hr⟩ := getI rs (show A < rs.length by omega)
      have hrA := hrc A r hr
      have hrlen : r.2.2.length ≤ k + 1 := by rw [hrA]; exact fanTo_len n A k
      repeat' (first
        | (apply WL.alloc tOk; exact rfl; exact rfl; exact rfl; intro gb w' hb hge hx)
        | (apply WL.storeB (w0 := w) tOk; exact rfl; exact rfl; exact rfl; exact rfl; assumption; (exact extA); exact rfl; exact rfl; exact rfl; (exact extA); (first | assumption | omega | (focus (apply Nat.le_trans; rotate_left; assumption; exact Below.size (by (exact extA)); done))); intro w' hb hc hX' hU; have hcc := hc; obtain ⟨h1, h2, _⟩ := hc; have hRR3 := hRR.keptNew hU hx hge)
        | (apply WL.gT; exact rfl; exact rfl; (focus (first | exact dec_false (by omega) | exact dec_true (by omega); done)))
        | (apply WL.gF; exact rfl; exact rfl; (focus (first | exact dec_false (by omega) | exact dec_true (by omega); done)))
        | (apply QL.gT; exact rfl; exact rfl; (focus (first | exact dec_false (by omega) | exact dec_true (by omega); done)))
        | (apply QL.gF; exact rfl; exact rfl; (focus (first | exact dec_false (by omega) | exact dec_true (by omega); done)))
        | (apply W.condKT; exact rfl; (focus (first | exact dec_false (by omega) | exact dec_true (by omega); done)))
        | (apply W.condKF; exact rfl; (focus (first | exact dec_false (by omega) | exact dec_true (by omega); done)))
        | (show WL _ _ _ _ _ _ _; first | apply WL.nil | (apply WL.pev tOk; exact rfl; exact rfl; exact rfl) | (apply WL.load tOk; exact rfl; exact rfl; exact rfl; exact rfl; exact rfl; (first | assumption | (focus (apply Ext.cell; rotate_left; assumption; (exact extA); done)))) | (apply WL.index tOk; exact rfl; exact rfl; exact rfl; exact rfl; exact rfl; exact rfl; exact rfl; exact rfl; assumption; (exact extA); exact rfl; omega; assumption; intro b off h; have hcc := h; first | (obtain ⟨h1, h2, h3, h4, h5, h6, _⟩ := h) | (obtain ⟨h1, h2, h3, _⟩ := h) | (obtain ⟨h1, h2, _⟩ := h) | (obtain ⟨h1, _⟩ := h)) | (apply WL.add; exact rfl; exact rfl; exact rfl; exact rfl; omega) | (apply WL.sub; exact rfl; exact rfl; exact rfl; exact rfl; omega) | (apply WL.mul; exact rfl; exact rfl; exact rfl; exact rfl; omega) | (apply WL.quo; exact rfl; exact rfl; exact rfl; exact rfl; omega) | (apply WL.rem; exact rfl; exact rfl; exact rfl; exact rfl; omega) | (apply WL.loadA tOk; exact rfl; exact rfl; exact rfl; exact rfl; exact rfl; (first | assumption | (focus (apply Cells.ext; rotate_left; assumption; (exact extA); done))); exact rfl) | (apply WL.guardF; exact rfl; exact rfl) | (apply WL.gD; exact rfl; exact rfl; all_goals intro _) | (apply WL.gN; exact rfl; exact rfl; all_goals intro _) | (apply WL.gB; exact rfl; exact rfl; all_goals intro _))
        | (show QL _ _ _ _ _ _ _; first | apply QL.nil | (apply QL.pev tOk; exact rfl; exact rfl; exact rfl) | (apply QL.load tOk; exact rfl; exact rfl; exact rfl; exact rfl; exact rfl; (first | assumption | (focus (apply Ext.cell; rotate_left; assumption; (exact extA); done)))) | (apply QL.index tOk; exact rfl; exact rfl; exact rfl; exact rfl; exact rfl; exact rfl; exact rfl; exact rfl; assumption; (exact extA); exact rfl; omega; assumption; intro b off h; have hcc := h; first | (obtain ⟨h1, h2, h3, h4, h5, h6, _⟩ := h) | (obtain ⟨h1, h2, h3, _⟩ := h) | (obtain ⟨h1, h2, _⟩ := h) | (obtain ⟨h1, _⟩ := h)) | (apply QL.add; exact rfl; exact rfl; exact rfl; exact rfl; omega) | (apply QL.sub; exact rfl; exact rfl; exact rfl; exact rfl; omega) | (apply QL.mul; exact rfl; exact rfl; exact rfl; exact rfl; omega) | (apply QL.quo; exact rfl; exact rfl; exact rfl; exact rfl; omega) | (apply QL.rem; exact rfl; exact rfl; exact rfl; exact rfl; omega) | (apply QL.loadA tOk; exact rfl; exact rfl; exact rfl; exact rfl; exact rfl; (first | assumption | (focus (apply Cells.ext; rotate_left; assumption; (exact extA); done))); exact rfl) | (apply QL.guardF; exact rfl; exact rfl) | (apply QL.gD; exact rfl; exact rfl; all_goals intro _) | (apply QL.gN; exact rfl; exact rfl; all_goals intro _) | (apply QL.gB; exact rfl; exact rfl; all_goals intro _))
        | (show Z _ _ _ _ _; first | apply Z.tail | apply Z.then_normal | apply Z.block_normal | apply Z.then_exit | apply Z.block_exit | apply Z.then_ret | apply Z.block_ret | (apply Z.block_other; exact rfl))
        | (show W _ _ _ _ _ _; first | apply W.seq | apply W.region | apply W.block | apply W.skip | apply W.ret | apply W.exit | (apply W.condT; exact rfl) | (apply W.condF; exact rfl) | (apply W.condD; exact rfl; all_goals intro _) | (apply W.condN; exact rfl; all_goals intro _) | (apply W.condB; exact rfl; all_goals intro _) | (apply W.regionD tMix; kernel_rfl)))
      have hrI : rs[(x.1 / 2).toNat]? = some r := by rw [hA]; simpa using hr
      have hIn := hRR3.inner _ r hrI
      have hOut3 := hRR3.outer
      repeat' (first
        | (apply WL.indexO tOk; exact rfl; exact rfl; exact rfl; exact rfl; exact rfl; exact rfl; exact rfl; exact rfl; assumption; (exact extA); exact encRow_ok; (first | exact rfl | (simp; done) | (simp [*]; done) | omega | (simp only [List.length_set]; omega)); omega; assumption; intro gb ha hc; cases ha; have hcc := hc; first | (obtain ⟨h1, h2, h3, _⟩ := hc) | (obtain ⟨h1, h2, _⟩ := hc) | (obtain ⟨h1, _⟩ := hc))
        | (apply WL.lit tOk; exact rfl; exact rfl; exact rfl; exact rfl; exact rfl; exact rfl; (first | exact rfl | kernel_rfl | (simp [Instr.fill, catCells]; done)); exact rfl; intro gb w' hb hge hc hx)
        | ((apply WL.append1 (z := ((k + 1 : Nat) : Int)) tOk encI_ok; exact rfl; exact rfl; exact rfl; exact rfl; exact rfl; exact rfl; exact rfl; exact rfl; exact rfl; exact rfl; exact hIn; exact (by (exact extA)); exact rfl; assumption; exact rfl; exact rfl; exact (by (exact extA)); omega; intro a4 cap4 w4 hO4 hX4 hU4 hF4))
        | (show WL _ _ _ _ _ _ _; first | apply WL.nil | (apply WL.pev tOk; exact rfl; exact rfl; exact rfl) | (apply WL.load tOk; exact rfl; exact rfl; exact rfl; exact rfl; exact rfl; (first | assumption | (focus (apply Ext.cell; rotate_left; assumption; (exact extA); done)))) | (apply WL.index tOk; exact rfl; exact rfl; exact rfl; exact rfl; exact rfl; exact rfl; exact rfl; exact rfl; assumption; (exact extA); exact rfl; omega; assumption; intro b off h; have hcc := h; first | (obtain ⟨h1, h2, h3, h4, h5, h6, _⟩ := h) | (obtain ⟨h1, h2, h3, _⟩ := h) | (obtain ⟨h1, h2, _⟩ := h) | (obtain ⟨h1, _⟩ := h)) | (apply WL.add; exact rfl; exact rfl; exact rfl; exact rfl; omega) | (apply WL.sub; exact rfl; exact rfl; exact rfl; exact rfl; omega) | (apply WL.mul; exact rfl; exact rfl; exact rfl; exact rfl; omega) | (apply WL.quo; exact rfl; exact rfl; exact rfl; exact rfl; omega) | (apply WL.rem; exact rfl; exact rfl; exact rfl; exact rfl; omega) | (apply WL.loadA tOk; exact rfl; exact rfl; exact rfl; exact rfl; exact rfl; (first | assumption | (focus (apply Cells.ext; rotate_left; assumption; (exact extA); done))); exact rfl) | (apply WL.guardF; exact rfl; exact rfl) | (apply WL.gD; exact rfl; exact rfl; all_goals intro _) | (apply WL.gN; exact rfl; exact rfl; all_goals intro _) | (apply WL.gB; exact rfl; exact rfl; all_goals intro _))
        | (show Z _ _ _ _ _; first | apply Z.tail | apply Z.then_normal | apply Z.block_normal | apply Z.then_exit | apply Z.block_exit | apply Z.then_ret | apply Z.block_ret | (apply Z.block_other; exact rfl))
        | (show W _ _ _ _ _ _; first | apply W.seq | apply W.region | apply W.block | apply W.skip | apply W.ret | apply W.exit | (apply W.condT; exact rfl) | (apply W.condF; exact rfl) | (apply W.condD; exact rfl; all_goals intro _) | (apply W.condN; exact rfl; all_goals intro _) | (apply W.condB; exact rfl; all_goals intro _)))
      have hRR4 := hRR3.ext hx
      have hOut4 := hU4.own hRR4.outer (hRR4.outNe hrI)
      by_cases hAB : x.1 / 2 = x.2 / 2
      · repeat' (first
          | (apply WL.gT; exact rfl; exact rfl; (focus (first | exact dec_false (fun h => h hAB) | exact dec_true hAB; done)))
          | (apply WL.gF; exact rfl; exact rfl; (focus (first | exact dec_false (fun h => h hAB) | exact dec_true hAB; done)))
          | (apply W.condKT; exact rfl; (focus (first | exact dec_false (fun h => h hAB) | exact dec_true hAB; done)))
          | (apply W.condKF; exact rfl; (focus (first | exact dec_false (fun h => h hAB) | exact dec_true hAB; done)))
          | (apply WL.indexO tOk; exact rfl; exact rfl; exact rfl; exact rfl; exact rfl; exact rfl; exact rfl; exact rfl; assumption; (exact extA); exact encRow_ok; (first | exact rfl | (simp; done) | (simp [*]; done) | omega | (simp only [List.length_set]; omega)); omega; assumption; intro gb ha hc; cases ha; have hcc := hc; first | (obtain ⟨h1, h2, h3, _⟩ := hc) | (obtain ⟨h1, h2, _⟩ := hc) | (obtain ⟨h1, _⟩ := hc))
          | ((apply WL.storeO (z' := ((a4, cap4, r.2.2 ++ [((k + 1 : Nat) : Int)]) : RowV Int)) tOk; exact rfl; exact rfl; exact rfl; exact rfl; exact hOut4; exact (by (exact extA)); exact rfl; exact rfl; exact rfl; exact encRow_ok; assumption; exact rfl; exact (by (exact extA)); intro w5 hO5 hX5 hU5))
          | (show WL _ _ _ _ _ _ _; first | apply WL.nil | (apply WL.pev tOk; exact rfl; exact rfl; exact rfl) | (apply WL.load tOk; exact rfl; exact rfl; exact rfl; exact rfl; exact rfl; (first | assumption | (focus (apply Ext.cell; rotate_left; assumption; (exact extA); done)))) | (apply WL.index tOk; exact rfl; exact rfl; exact rfl; exact rfl; exact rfl; exact rfl; exact rfl; exact rfl; assumption; (exact extA); exact rfl; omega; assumption; intro b off h; have hcc := h; first | (obtain ⟨h1, h2, h3, h4, h5, h6, _⟩ := h) | (obtain ⟨h1, h2, h3, _⟩ := h) | (obtain ⟨h1, h2, _⟩ := h) | (obtain ⟨h1, _⟩ := h)) | (apply WL.add; exact rfl; exact rfl; exact rfl; exact rfl; omega) | (apply WL.sub; exact rfl; exact rfl; exact rfl; exact rfl; omega) | (apply WL.mul; exact rfl; exact rfl; exact rfl; exact rfl; omega) | (apply WL.quo; exact rfl; exact rfl; exact rfl; exact rfl; omega) | (apply WL.rem; exact rfl; exact rfl; exact rfl; exact rfl; omega) | (apply WL.loadA tOk; exact rfl; exact rfl; exact rfl; exact rfl; exact rfl; (first | assumption | (focus (apply Cells.ext; rotate_left; assumption; (exact extA); done))); exact rfl) | (apply WL.guardF; exact rfl; exact rfl) | (apply WL.gD; exact rfl; exact rfl; all_goals intro _) | (apply WL.gN; exact rfl; exact rfl; all_goals intro _) | (apply WL.gB; exact rfl; exact rfl; all_goals intro _))
          | (show Z _ _ _ _ _; first | apply Z.tail | apply Z.then_normal | apply Z.block_normal | apply Z.then_exit | apply Z.block_exit | apply Z.then_ret | apply Z.block_ret | (apply Z.block_other; exact rfl))
          | (show W _ _ _ _ _ _; first | apply W.seq | apply W.region | apply W.block | apply W.skip | apply W.ret | apply W.exit | (apply W.condT; exact rfl) | (apply W.condF; exact rfl) | (apply W.condD; exact rfl; all_goals intro _) | (apply W.condN; exact rfl; all_goals intro _) | (apply W.condB; exact rfl; all_goals intro _)))
        have hRR5 := hRR4.step hrI hU4 hF4 hO4 hU5 hO5
        have hsl : (rs.set (x.1 / 2).toNat ((a4, cap4, r.2.2 ++ [((k + 1 : Nat) : Int)]) : RowV Int)).length = n.length + 1 := by rw [List.length_set]; exact hrl
        have hc5 : ∀ v q, (rs.set (x.1 / 2).toNat ((a4, cap4, r.2.2 ++ [((k + 1 : Nat) : Int)]) : RowV Int))[v]? = some q → q.2.2 = if v = A then fanTo n A k ++ [((k + 1 : Nat) : Int)] else fanTo n v k := by
          refine fan_set (f := fun v => fanTo n v k) (n := n) (k := k) (p := fun _ => True) hrc (by omega) ?_ ?_
          · show r.2.2 ++ _ = _
            rw [hrA, if_pos (by omega)]
          · intro v hv; rw [if_neg (by omega)]
        refine Z.againW ⟨by omega, by assumption, _, hRR5, hsl, fun v q hq => ?_⟩ ⟨rfl, rfl, rfl, rfl, rfl, trivial⟩
        rw [hc5 v q hq]
        by_cases hv : v = A
        · subst hv; rw [if_pos rfl, fanTo_yes ((hkid v).2 ⟨h0, .inl (by omega)⟩)]
        · rw [if_neg hv, fanTo_no (fun h => hv (by have := ((hkid v).1 h).2; omega))]
      · repeat' (first
          | (apply WL.gT; exact rfl; exact rfl; (focus (first | exact dec_false (fun h => h hAB) | exact dec_true hAB; done)))
          | (apply WL.gF; exact rfl; exact rfl; (focus (first | exact dec_false (fun h => h hAB) | exact dec_true hAB; done)))
          | (apply W.condKT; exact rfl; (focus (first | exact dec_false (fun h => h hAB) | exact dec_true hAB; done)))
          | (apply W.condKF; exact rfl; (focus (first | exact dec_false (fun h => h hAB) | exact dec_true hAB; done)))
          | (apply WL.indexO tOk; exact rfl; exact rfl; exact rfl; exact rfl; exact rfl; exact rfl; exact rfl; exact rfl; assumption; (exact extA); exact encRow_ok; (first | exact rfl | (simp; done) | (simp [*]; done) | omega | (simp only [List.length_set]; omega)); omega; assumption; intro gb ha hc; cases ha; have hcc := hc; first | (obtain ⟨h1, h2, h3, _⟩ := hc) | (obtain ⟨h1, h2, _⟩ := hc) | (obtain ⟨h1, _⟩ := hc))
          | ((apply WL.storeO (z' := ((a4, cap4, r.2.2 ++ [((k + 1 : Nat) : Int)]) : RowV Int)) tOk; exact rfl; exact rfl; exact rfl; exact rfl; exact hOut4; exact (by (exact extA)); exact rfl; exact rfl; exact rfl; exact encRow_ok; assumption; exact rfl; exact (by (exact extA)); intro w5 hO5 hX5 hU5))
          | (show WL _ _ _ _ _ _ _; first | apply WL.nil | (apply WL.pev tOk; exact rfl; exact rfl; exact rfl) | (apply WL.load tOk; exact rfl; exact rfl; exact rfl; exact rfl; exact rfl; (first | assumption | (focus (apply Ext.cell; rotate_left; assumption; (exact extA); done)))) | (apply WL.index tOk; exact rfl; exact rfl; exact rfl; exact rfl; exact rfl; exact rfl; exact rfl; exact rfl; assumption; (exact extA); exact rfl; omega; assumption; intro b off h; have hcc := h; first | (obtain ⟨h1, h2, h3, h4, h5, h6, _⟩ := h) | (obtain ⟨h1, h2, h3, _⟩ := h) | (obtain ⟨h1, h2, _⟩ := h) | (obtain ⟨h1, _⟩ := h)) | (apply WL.add; exact rfl; exact rfl; exact rfl; exact rfl; omega) | (apply WL.sub; exact rfl; exact rfl; exact rfl; exact rfl; omega) | (apply WL.mul; exact rfl; exact rfl; exact rfl; exact rfl; omega) | (apply WL.quo; exact rfl; exact rfl; exact rfl; exact rfl; omega) | (apply WL.rem; exact rfl; exact rfl; exact rfl; exact rfl; omega) | (apply WL.loadA tOk; exact rfl; exact rfl; exact rfl; exact rfl; exact rfl; (first | assumption | (focus (apply Cells.ext; rotate_left; assumption; (exact extA); done))); exact rfl) | (apply WL.guardF; exact rfl; exact rfl) | (apply WL.gD; exact rfl; exact rfl; all_goals intro _) | (apply WL.gN; exact rfl; exact rfl; all_goals intro _) | (apply WL.gB; exact rfl; exact rfl; all_goals intro _))
          | (show Z _ _ _ _ _; first | apply Z.tail | apply Z.then_normal | apply Z.block_normal | apply Z.then_exit | apply Z.block_exit | apply Z.then_ret | apply Z.block_ret | (apply Z.block_other; exact rfl))
          | (show W _ _ _ _ _ _; first | apply W.seq | apply W.region | apply W.block | apply W.skip | apply W.ret | apply W.exit | (apply W.condT; exact rfl) | (apply W.condF; exact rfl) | (apply W.condD; exact rfl; all_goals intro _) | (apply W.condN; exact rfl; all_goals intro _) | (apply W.condB; exact rfl; all_goals intro _)))
        have hRR5 := hRR4.step hrI hU4 hF4 hO4 hU5 hO5
        have hsl : (rs.set (x.1 / 2).toNat ((a4, cap4, r.2.2 ++ [((k + 1 : Nat) : Int)]) : RowV Int)).length = n.length + 1 := by rw [List.length_set]; exact hrl
        have hc5 : ∀ v q, (rs.set (x.1 / 2).toNat ((a4, cap4, r.2.2 ++ [((k + 1 : Nat) : Int)]) : RowV Int))[v]? = some q → q.2.2 = if v = A then fanTo n A k ++ [((k + 1 : Nat) : Int)] else fanTo n v k := by
          refine fan_set (f := fun v => fanTo n v k) (n := n) (k := k) (p := fun _ => True) hrc (by omega) ?_ ?_
          · show r.2.2 ++ _ = _
            rw [hrA, if_pos (by omega)]
          · intro v hv; rw [if_neg (by omega)]
        obtain ⟨r2, hr2⟩ := getI (rs.set (x.1 / 2).toNat ((a4, cap4, r.2.2 ++ [((k + 1 : Nat) : Int)]) : RowV Int)) (show (x.2 / 2).toNat < _ by omega)
        have hrB := hc5 _ r2 hr2
        rw [if_neg (by omega), show (x.2 / 2).toNat = B by omega] at hrB
        have hrlen2 : r2.2.2.length ≤ k + 1 := by rw [hrB]; exact fanTo_len n B k
        have hIn2 := hRR5.inner _ r2 hr2
        have hOut5 := hRR5.outer
        repeat' (first
          | (apply WL.indexO tOk; exact rfl; exact rfl; exact rfl; exact rfl; exact rfl; exact rfl; exact rfl; exact rfl; assumption; (exact extA); exact encRow_ok; (first | exact rfl | (simp; done) | (simp [*]; done) | omega | (simp only [List.length_set]; omega)); omega; assumption; intro gb ha hc; cases ha; have hcc := hc; first | (obtain ⟨h1, h2, h3, _⟩ := hc) | (obtain ⟨h1, h2, _⟩ := hc) | (obtain ⟨h1, _⟩ := hc))
          | (apply WL.lit tOk; exact rfl; exact rfl; exact rfl; exact rfl; exact rfl; exact rfl; (first | exact rfl | kernel_rfl | (simp [Instr.fill, catCells]; done)); exact rfl; intro gb w' hb hge hc hx)
          | ((apply WL.append1 (z := ((k + 1 : Nat) : Int)) tOk encI_ok; exact rfl; exact rfl; exact rfl; exact rfl; exact rfl; exact rfl; exact rfl; exact rfl; exact rfl; exact rfl; exact hIn2; exact (by (exact extA)); exact rfl; assumption; exact rfl; exact rfl; exact (by (exact extA)); omega; intro a6 cap6 w6 hO6 hX6 hU6 hF6))
          | (show WL _ _ _ _ _ _ _; first | apply WL.nil | (apply WL.pev tOk; exact rfl; exact rfl; exact rfl) | (apply WL.load tOk; exact rfl; exact rfl; exact rfl; exact rfl; exact rfl; (first | assumption | (focus (apply Ext.cell; rotate_left; assumption; (exact extA); done)))) | (apply WL.index tOk; exact rfl; exact rfl; exact rfl; exact rfl; exact rfl; exact rfl; exact rfl; exact rfl; assumption; (exact extA); exact rfl; omega; assumption; intro b off h; have hcc := h; first | (obtain ⟨h1, h2, h3, h4, h5, h6, _⟩ := h) | (obtain ⟨h1, h2, h3, _⟩ := h) | (obtain ⟨h1, h2, _⟩ := h) | (obtain ⟨h1, _⟩ := h)) | (apply WL.add; exact rfl; exact rfl; exact rfl; exact rfl; omega) | (apply WL.sub; exact rfl; exact rfl; exact rfl; exact rfl; omega) | (apply WL.mul; exact rfl; exact rfl; exact rfl; exact rfl; omega) | (apply WL.quo; exact rfl; exact rfl; exact rfl; exact rfl; omega) | (apply WL.rem; exact rfl; exact rfl; exact rfl; exact rfl; omega) | (apply WL.loadA tOk; exact rfl; exact rfl; exact rfl; exact rfl; exact rfl; (first | assumption | (focus (apply Cells.ext; rotate_left; assumption; (exact extA); done))); exact rfl) | (apply WL.guardF; exact rfl; exact rfl) | (apply WL.gD; exact rfl; exact rfl; all_goals intro _) | (apply WL.gN; exact rfl; exact rfl; all_goals intro _) | (apply WL.gB; exact rfl; exact rfl; all_goals intro _))
          | (show Z _ _ _ _ _; first | apply Z.tail | apply Z.then_normal | apply Z.block_normal | apply Z.then_exit | apply Z.block_exit | apply Z.then_ret | apply Z.block_ret | (apply Z.block_other; exact rfl))
          | (show W _ _ _ _ _ _; first | apply W.seq | apply W.region | apply W.block | apply W.skip | apply W.ret | apply W.exit | (apply W.condT; exact rfl) | (apply W.condF; exact rfl) | (apply W.condD; exact rfl; all_goals intro _) | (apply W.condN; exact rfl; all_goals intro _) | (apply W.condB; exact rfl; all_goals intro _)))
        have hRR6 := hRR5.ext hx
        have hOut6 := hU6.own hRR6.outer (hRR6.outNe hr2)
        repeat' (first
          | (apply WL.indexO tOk; exact rfl; exact rfl; exact rfl; exact rfl; exact rfl; exact rfl; exact rfl; exact rfl; assumption; (exact extA); exact encRow_ok; (first | exact rfl | (simp; done) | (simp [*]; done) | omega | (simp only [List.length_set]; omega)); omega; assumption; intro gb ha hc; cases ha; have hcc := hc; first | (obtain ⟨h1, h2, h3, _⟩ := hc) | (obtain ⟨h1, h2, _⟩ := hc) | (obtain ⟨h1, _⟩ := hc))
          | ((apply WL.storeO (z' := ((a6, cap6, r2.2.2 ++ [((k + 1 : Nat) : Int)]) : RowV Int)) tOk; exact rfl; exact rfl; exact rfl; exact rfl; exact hOut6; exact (by (exact extA)); exact rfl; exact rfl; exact rfl; exact encRow_ok; assumption; exact rfl; exact (by (exact extA)); intro w7 hO7 hX7 hU7))
          | (show WL _ _ _ _ _ _ _; first | apply WL.nil | (apply WL.pev tOk; exact rfl; exact rfl; exact rfl) | (apply WL.load tOk; exact rfl; exact rfl; exact rfl; exact rfl; exact rfl; (first | assumption | (focus (apply Ext.cell; rotate_left; assumption; (exact extA); done)))) | (apply WL.index tOk; exact rfl; exact rfl; exact rfl; exact rfl; exact rfl; exact rfl; exact rfl; exact rfl; assumption; (exact extA); exact rfl; omega; assumption; intro b off h; have hcc := h; first | (obtain ⟨h1, h2, h3, h4, h5, h6, _⟩ := h) | (obtain ⟨h1, h2, h3, _⟩ := h) | (obtain ⟨h1, h2, _⟩ := h) | (obtain ⟨h1, _⟩ := h)) | (apply WL.add; exact rfl; exact rfl; exact rfl; exact rfl; omega) | (apply WL.sub; exact rfl; exact rfl; exact rfl; exact rfl; omega) | (apply WL.mul; exact rfl; exact rfl; exact rfl; exact rfl; omega) | (apply WL.quo; exact rfl; exact rfl; exact rfl; exact rfl; omega) | (apply WL.rem; exact rfl; exact rfl; exact rfl; exact rfl; omega) | (apply WL.loadA tOk; exact rfl; exact rfl; exact rfl; exact rfl; exact rfl; (first | assumption | (focus (apply Cells.ext; rotate_left; assumption; (exact extA); done))); exact rfl) | (apply WL.guardF; exact rfl; exact rfl) | (apply WL.gD; exact rfl; exact rfl; all_goals intro _) | (apply WL.gN; exact rfl; exact rfl; all_goals intro _) | (apply WL.gB; exact rfl; exact rfl; all_goals intro _))
          | (show Z _ _ _ _ _; first | apply Z.tail | apply Z.then_normal | apply Z.block_normal | apply Z.then_exit | apply Z.block_exit | apply Z.then_ret | apply Z.block_ret | (apply Z.block_other; exact rfl))
          | (show W _ _ _ _ _ _; first | apply W.seq | apply W.region | apply W.block | apply W.skip | apply W.ret | apply W.exit | (apply W.condT; exact rfl) | (apply W.condF; exact rfl) | (apply W.condD; exact rfl; all_goals intro _) | (apply W.condN; exact rfl; all_goals intro _) | (apply W.condB; exact rfl; all_goals intro _)))
        have hRR7 := hRR6.step hr2 hU6 hF6 hO6 hU7 hO7
        refine Z.againW ⟨by omega, by assumption, _, hRR7, by rw [List.length_set]; exact hsl, ?_⟩ ⟨rfl, rfl, rfl, rfl, rfl, trivial⟩
        refine fan_set (f := fun v => if v = A then fanTo n A k ++ [((k + 1 : Nat) : Int)] else fanTo n v k) (g := fun v => fanTo n v (k + 1)) (n := n) (k := k) (p := fun _ => True) hc5 (by omega) ?_ ?_
        · show r2.2.2 ++ _ = _
          rw [hrB, show (x.2 / 2).toNat = B by omega, fanTo_yes ((hkid B).2 ⟨h0, .inr (by omega)⟩)]
        · intro v hv
          show fanTo n v (k + 1) = if v = A then _ else _
          by_cases hvA : v = A
          · subst hvA; rw [if_pos rfl, fanTo_yes ((hkid v).2 ⟨h0, .inl (by omega)⟩)]
          · rw [if_neg hvA, fanTo_no (fun h => by have := ((hkid v).1 h).2; omega)]
    · repeat' (first
        | (apply WL.alloc tOk; exact rfl; exact rfl; exact rfl; intro gb w' hb hge hx)
        | (apply WL.storeB (w0 := w) tOk; exact rfl; exact rfl; exact rfl; exact rfl; assumption; (exact extA); exact rfl; exact rfl; exact rfl; (exact extA); (first | assumption | omega | (focus (apply Nat.le_trans; rotate_left; assumption; exact Below.size (by (exact extA)); done))); intro w' hb hc hX' hU; have hcc := hc; obtain ⟨h1, h2, _⟩ := hc; have hRR3 := hRR.keptNew hU hx hge)
        | (apply WL.gT; exact rfl; exact rfl; (focus (first | exact dec_false (by omega) | exact dec_true (by omega); done)))
        | (apply WL.gF; exact rfl; exact rfl; (focus (first | exact dec_false (by omega) | exact dec_true (by omega); done)))
        | (apply QL.gT; exact rfl; exact rfl; (focus (first | exact dec_false (by omega) | exact dec_true (by omega); done)))
        | (apply QL.gF; exact rfl; exact rfl; (focus (first | exact dec_false (by omega) | exact dec_true (by omega); done)))
        | (apply W.condKT; exact rfl; (focus (first | exact dec_false (by omega) | exact dec_true (by omega); done)))
        | (apply W.condKF; exact rfl; (focus (first | exact dec_false (by omega) | exact dec_true (by omega); done)))
        | (show WL _ _ _ _ _ _ _; first | apply WL.nil | (apply WL.pev tOk; exact rfl; exact rfl; exact rfl) | (apply WL.load tOk; exact rfl; exact rfl; exact rfl; exact rfl; exact rfl; (first | assumption | (focus (apply Ext.cell; rotate_left; assumption; (exact extA); done)))) | (apply WL.index tOk; exact rfl; exact rfl; exact rfl; exact rfl; exact rfl; exact rfl; exact rfl; exact rfl; assumption; (exact extA); exact rfl; omega; assumption; intro b off h; have hcc := h; first | (obtain ⟨h1, h2, h3, h4, h5, h6, _⟩ := h) | (obtain ⟨h1, h2, h3, _⟩ := h) | (obtain ⟨h1, h2, _⟩ := h) | (obtain ⟨h1, _⟩ := h)) | (apply WL.add; exact rfl; exact rfl; exact rfl; exact rfl; omega) | (apply WL.sub; exact rfl; exact rfl; exact rfl; exact rfl; omega) | (apply WL.mul; exact rfl; exact rfl; exact rfl; exact rfl; omega) | (apply WL.quo; exact rfl; exact rfl; exact rfl; exact rfl; omega) | (apply WL.rem; exact rfl; exact rfl; exact rfl; exact rfl; omega) | (apply WL.loadA tOk; exact rfl; exact rfl; exact rfl; exact rfl; exact rfl; (first | assumption | (focus (apply Cells.ext; rotate_left; assumption; (exact extA); done))); exact rfl) | (apply WL.guardF; exact rfl; exact rfl) | (apply WL.gD; exact rfl; exact rfl; all_goals intro _) | (apply WL.gN; exact rfl; exact rfl; all_goals intro _) | (apply WL.gB; exact rfl; exact rfl; all_goals intro _))
        | (show QL _ _ _ _ _ _ _; first | apply QL.nil | (apply QL.pev tOk; exact rfl; exact rfl; exact rfl) | (apply QL.load tOk; exact rfl; exact rfl; exact rfl; exact rfl; exact rfl; (first | assumption | (focus (apply Ext.cell; rotate_left; assumption; (exact extA); done)))) | (apply QL.index tOk; exact rfl; exact rfl; exact rfl; exact rfl; exact rfl; exact rfl; exact rfl; exact rfl; assumption; (exact extA); exact rfl; omega; assumption; intro b off h; have hcc := h; first | (obtain ⟨h1, h2, h3, h4, h5, h6, _⟩ := h) | (obtain ⟨h1, h2, h3, _⟩ := h) | (obtain ⟨h1, h2, _⟩ := h) | (obtain ⟨h1, _⟩ := h)) | (apply QL.add; exact rfl; exact rfl; exact rfl; exact rfl; omega) | (apply QL.sub; exact rfl; exact rfl; exact rfl; exact rfl; omega) | (apply QL.mul; exact rfl; exact rfl; exact rfl; exact rfl; omega) | (apply QL.quo; exact rfl; exact rfl; exact rfl; exact rfl; omega) | (apply QL.rem; exact rfl; exact rfl; exact rfl; exact rfl; omega) | (apply QL.loadA tOk; exact rfl; exact rfl; exact rfl; exact rfl; exact rfl; (first | assumption | (focus (apply Cells.ext; rotate_left; assumption; (exact extA); done))); exact rfl) | (apply QL.guardF; exact rfl; exact rfl) | (apply QL.gD; exact rfl; exact rfl; all_goals intro _) | (apply QL.gN; exact rfl; exact rfl; all_goals intro _) | (apply QL.gB; exact rfl; exact rfl; all_goals intro _))
        | (show Z _ _ _ _ _; first | apply Z.tail | apply Z.then_normal | apply Z.block_normal | apply Z.then_exit | apply Z.block_exit | apply Z.then_ret | apply Z.block_ret | (apply Z.block_other; exact rfl))
        | (show W _ _ _ _ _ _; first | apply W.seq | apply W.region | apply W.block | apply W.skip | apply W.ret | apply W.exit | (apply W.condT; exact rfl) | (apply W.condF; exact rfl) | (apply W.condD; exact rfl; all_goals intro _) | (apply W.condN; exact rfl; all_goals intro _) | (apply W.condB; exact rfl; all_goals intro _) | (apply W.regionD tMix; kernel_rfl)))
      refine Z.againW ⟨by omega, by assumption, rs, hRR3, hrl, fun v r hr => ?_⟩ ⟨rfl, rfl, rfl, rfl, rfl, trivial⟩
      rw [hrc v r hr, fanTo_no (fun h => h0 ((hkid v).1 h).1)]
  · repeat' (first
      | (apply WL.gT; exact rfl; exact rfl; (focus (exact dec_false (by omega); done)))
      | (apply WL.gF; exact rfl; exact rfl; (focus (exact dec_false (by omega); done)))
      | (apply W.condKT; exact rfl; (focus (exact dec_false (by omega); done)))
      | (apply W.condKF; exact rfl; (focus (exact dec_false (by omega); done)))
      | (show WL _ _ _ _ _ _ _; first | apply WL.nil | (apply WL.pev tOk; exact rfl; exact rfl; exact rfl) | (apply WL.load tOk; exact rfl; exact rfl; exact rfl; exact rfl; exact rfl; (first | assumption | (focus (apply Ext.cell; rotate_left; assumption; (exact extA); done)))) | (apply WL.index tOk; exact rfl; exact rfl; exact rfl; exact rfl; exact rfl; exact rfl; exact rfl; exact rfl; assumption; (exact extA); exact rfl; omega; assumption; intro b off h; have hcc := h; first | (obtain ⟨h1, h2, h3, h4, h5, h6, _⟩ := h) | (obtain ⟨h1, h2, h3, _⟩ := h) | (obtain ⟨h1, h2, _⟩ := h) | (obtain ⟨h1, _⟩ := h)) | (apply WL.add; exact rfl; exact rfl; exact rfl; exact rfl; omega) | (apply WL.sub; exact rfl; exact rfl; exact rfl; exact rfl; omega) | (apply WL.mul; exact rfl; exact rfl; exact rfl; exact rfl; omega) | (apply WL.quo; exact rfl; exact rfl; exact rfl; exact rfl; omega) | (apply WL.rem; exact rfl; exact rfl; exact rfl; exact rfl; omega) | (apply WL.loadA tOk; exact rfl; exact rfl; exact rfl; exact rfl; exact rfl; (first | assumption | (focus (apply Cells.ext; rotate_left; assumption; (exact extA); done))); exact rfl) | (apply WL.guardF; exact rfl; exact rfl) | (apply WL.gD; exact rfl; exact rfl; all_goals intro _) | (apply WL.gN; exact rfl; exact rfl; all_goals intro _) | (apply WL.gB; exact rfl; exact rfl; all_goals intro _))
      | (show Z _ _ _ _ _; first | apply Z.tail | apply Z.then_normal | apply Z.block_normal | apply Z.then_exit | apply Z.block_exit | apply Z.then_ret | apply Z.block_ret | (apply Z.block_other; exact rfl))
      | (show W _ _ _ _ _ _; first | apply W.seq | apply W.region | apply W.block | apply W.skip | apply W.ret | apply W.exit | (apply W.condT; exact rfl) | (apply W.condF; exact rfl) | (apply W.condD; exact rfl; all_goals intro _) | (apply W.condN; exact rfl; all_goals intro _) | (apply W.condB; exact rfl; all_goals intro _)))
    obtain rfl : k = n.length := by omega
    refine Z.body1 Try.results102 rfl fun m => ⟨hx'.at m, some ⟨g0, 0, none⟩, n.length + 1, rs, by rw [hrl], hRR.ext ((Ext.refl _).at m), ?_⟩
    refine tab_eq (by rw [List.length_map]; exact hrl) fun u y hy => ?_
    rw [List.getElem?_map] at hy
    obtain ⟨r, hr, rfl⟩ := Option.map_eq_some_iff.1 hy
    exact (hrc u r hr).symm

end Go.Proofs.Ytmaekaflpbenmaa
namespace Go.Lt
open Go.RowKit
set_option linter.unusedVariables false

theorem Row.keep {α : Type} {s : Nat} {enc : α → List Value} {w w' : World} {a : Option Addr} {l : List α} (h : Row s enc w a l) (hb : ∀ k, blk a = some k → w'.heap[k]? = w.heap[k]?) : Row s enc w' a l := by
  refine ⟨h.len, fun i x hx => ?_⟩
  obtain ⟨b, off, h1, h2⟩ := h.elem i x hx
  refine ⟨b, off, h1, ?_⟩
  have e := hb b (by rw [h1]; rfl)
  have key : ∀ (L : List Value) (o : Nat), Cells w b o L → Cells w' b o L := by
    intro L
    induction L with
    | nil => intro o _; trivial
    | cons u r ih =>
      intro o hc
      refine ⟨?_, ih _ hc.2⟩
      have h3 := hc.1
      simp only [World.cell?] at h3 ⊢
      rw [e]; exact h3
  exact key _ _ h2
def pfro (k : Nat) (v : Option Obj) : Piece := ⟨some k, fun w => w.heap[k]? = v, fun h hb => by rw [hb k rfl]; exact h⟩
/-- The blocks from b on, as they are in w. -/
def frz (b : Nat) (w : World) : List Piece := (List.range (w.heap.size - b)).map fun i => pfro (b + i) (w.heap[b + i]?)
theorem frz_get {b : Nat} {w : World} {i : Nat} {p : Piece} (h : (frz b w)[i]? = some p) : b + i < w.heap.size ∧ p = pfro (b + i) (w.heap[b + i]?) := by
  unfold frz at h
  rw [List.getElem?_map] at h
  obtain ⟨j, hj, rfl⟩ := Option.map_eq_some_iff.1 h
  obtain ⟨h1, h2⟩ := List.getElem?_eq_some_iff.1 hj
  simp at h1 h2
  subst h2
  exact ⟨by omega, rfl⟩
theorem get_app {α : Type} {l r : List α} {i : Nat} {x : α} (h : (l ++ r)[i]? = some x) : l[i]? = some x ∨ (l.length ≤ i ∧ r[i - l.length]? = some x) := by
  by_cases hi : i < l.length
  · rw [List.getElem?_append_left hi] at h; exact .inl h
  · rw [List.getElem?_append_right (by omega)] at h; exact .inr ⟨by omega, h⟩
theorem Sep.freeze {B : Nat} {w1 w2 : World} {ps : List Piece} (hS : Sep B w1 ps) (hx : Ext w1 w2) (hB : B ≤ w1.heap.size) : Sep B w2 (ps ++ frz w1.heap.size w2) := by
  have hS' := hS.ext hx
  refine ⟨fun i p h => ?_, fun i j p q h1 h2 hne => ?_⟩
  · rcases get_app h with h | ⟨_, h⟩
    · exact hS'.holds i p h
    · obtain ⟨h1, rfl⟩ := frz_get h
      exact ⟨rfl, fun k hk => by cases hk; exact ⟨by omega, h1⟩⟩
  · have old : ∀ (i : Nat) (p : Piece) (k : Nat), ps[i]? = some p → p.b = some k → k < w1.heap.size := fun i p k h hk => ((hS.holds i p h).2 k hk).2
    rcases get_app h1 with h1 | ⟨l1, h1⟩
    · rcases get_app h2 with h2 | ⟨l2, h2⟩
      · exact hS.apart i j p q h1 h2 hne
      · obtain ⟨_, rfl⟩ := frz_get h2
        cases hb : p.b with
        | none => exact .inl rfl
        | some k => exact .inr fun he => by have e2 := Option.some.inj he; have := old i p k h1 hb; omega
    · obtain ⟨_, rfl⟩ := frz_get h1
      rcases get_app h2 with h2 | ⟨l2, h2⟩
      · exact .inr fun he => by have := old j q _ h2 he.symm; omega
      · obtain ⟨_, rfl⟩ := frz_get h2
        exact .inr fun he => by have e2 := Option.some.inj he; omega
theorem Sep.frozen {B b : Nat} {w w2 : World} {ps : List Piece} (hS : Sep B w (ps ++ frz b w2)) {k : Nat} (h1 : b ≤ k) (h2 : k < w2.heap.size) : w.heap[k]? = w2.heap[k]? := by
  have h : (ps ++ frz b w2)[ps.length + (k - b)]? = some (pfro k (w2.heap[k]?)) := by
    rw [List.getElem?_append_right (by omega), Nat.add_sub_cancel_left]
    unfold frz
    rw [List.getElem?_map, List.getElem?_range (by omega)]
    simp [show b + (k - b) = k by omega]
  exact (hS.holds _ _ h).1
theorem OwnRR.keep {α : Type} {s : Nat} {enc : α → List Value} {el elO B : Nat} {w w' : World} {a : Option Addr} {cap : Nat} {rs : List (RowV α)} (h : OwnRR s enc el elO B w a cap rs) (hb : ∀ k, B ≤ k → k < w.heap.size → w'.heap[k]? = w.heap[k]?) : OwnRR s enc el elO B w' a cap rs :=
  ⟨h.outer.keep fun k hk => hb k (h.outer.blk_lt k hk).1 (h.outer.blk_lt k hk).2, fun i r hr => (h.inner i r hr).keep fun k hk => hb k ((h.inner i r hr).blk_lt k hk).1 ((h.inner i r hr).blk_lt k hk).2, h.apartO, h.apart⟩
end Go.Lt
namespace Go.Lt
open Go.RowKit
set_option linter.unusedVariables false
set_option linter.unusedSimpArgs false
section
variable {P : Program} {N : Nat} {e : Env} {w : World} {Q : Exit → Act → World → Prop} {C : World → Prop} {Kf : Act → Prop} {ops : List Oper} {l : List Oper} {T T' : Tab}
  {d : Nat} {tt t ty : TypeId} {ps : String} {af : Array Edge} {g : Option (Nat × Bool)} {x y : Operand} {ti ei : TI} {el : TypeId} {n : Nat}
theorem ybuildA (hT : OkTab P T) (hT' : OkTab P T') {parts : List (Nat × Operand)} {pvs : List (Nat × Value)} {cs : List Value} {dd : Option Tmp} (ht : tget T t = some ti) (htd : ti.desc = .array n el) (he : tget T' el = some ei)
    (hp : evp e parts = some pvs) (hfill : Instr.fill (fun i : Nat => some (i * ei.size, ei.size)) ti.zero.cells pvs = some cs.toArray) : YieldsIn P e C ⟨dd, .build t ⟨parts⟩, tt, ps, af, g⟩ (.agg cs.toArray) := by
  intro ρ hρ w' _
  have h1 := run_underlying' (hT.at ht); rw [htd] at h1
  have h2 := run_sizeOf' (hT'.at he)
  have h3 := run_zeroValue' (hT.at ht)
  have h4 := evp_map hρ hp
  have h5 : (Instr.build t ⟨pvs⟩).run P w' = .ok (.agg cs.toArray) w' := by
    unfold Instr.build
    simp only [Sem.run_bind, h3, Result.andThen_ok, Sem.run_pure, h1, h2]
    rw [hfill]
    rfl
  simp [execOp, h4, h5]
theorem WL.buildA (hT : OkTab P T) (hT' : OkTab P T') {parts : List (Nat × Operand)} {pvs : List (Nat × Value)} {cs : List Value} (hg : gate ops e g = some true) (hd : Nat.blt d N = true) (ht : tget T t = some ti) (htd : ti.desc = .array n el) (he : tget T' el = some ei)
    (hp : evp e parts = some pvs) (hfill : Instr.fill (fun i : Nat => some (i * ei.size, ei.size)) ti.zero.cells pvs = some cs.toArray)
    (k : WL P N ops.toArray l ((d, .agg cs.toArray) :: e) w Q) : WL P N ops.toArray (⟨some d, .build t ⟨parts⟩, tt, ps, af, g⟩ :: l) e w Q :=
  WL.step hg hd (ybuildA hT hT' ht htd he hp hfill) k
theorem yindexV (hT : OkTab P T) (hT' : OkTab P T') {cs : Array Value} {k : IntKind} {i : Int} {v : Value} {dd : Option Tmp} (hx : ev e x = some (.agg cs)) (hy : ev e y = some (.int k i)) (ht : tget T t = some ti) (htd : ti.desc = .array n el) (he : tget T' el = some ei) (hs : ei.size = 1) (ha : isAggD ei.desc = false)
    (h0 : 0 ≤ i ∧ i < n) (hv : cs[i.toNat]? = some v) : Yields P e ⟨dd, .index t x y, tt, ps, af, g⟩ v := by
  intro ρ hρ w'
  have h1 := run_underlying' (hT.at ht); rw [htd] at h1
  have h2 := run_sizeOf' (hT'.at he); rw [hs] at h2
  have h3 := run_isAgg' (hT'.at he); rw [ha] at h3
  simp [execOp, hρ _ _ hx, hρ _ _ hy, Instr.index, asIntOf, h1, h2, h0, part, h3, hv]
theorem WL.indexV (hT : OkTab P T) (hT' : OkTab P T') {cs : Array Value} {k : IntKind} {i : Int} {v : Value} (hg : gate ops e g = some true) (hd : Nat.blt d N = true) (hx : ev e x = some (.agg cs)) (hy : ev e y = some (.int k i)) (ht : tget T t = some ti) (htd : ti.desc = .array n el) (he : tget T' el = some ei) (hs : ei.size = 1) (ha : isAggD ei.desc = false)
    (h0 : 0 ≤ i ∧ i < n) (hv : cs[i.toNat]? = some v) (k' : WL P N ops.toArray l ((d, v) :: e) w Q) : WL P N ops.toArray (⟨some d, .index t x y, tt, ps, af, g⟩ :: l) e w Q := WL.step hg hd (yindexV hT hT' hx hy ht htd he hs ha h0 hv).in k'
theorem FL.indexV (hT : OkTab P T) (hT' : OkTab P T') {cs : Array Value} {k : IntKind} {i : Int} {v : Value} (hg : gate ops e g = some true) (hd : Nat.blt d N = true) (hx : ev e x = some (.agg cs)) (hy : ev e y = some (.int k i)) (ht : tget T t = some ti) (htd : ti.desc = .array n el) (he : tget T' el = some ei) (hs : ei.size = 1) (ha : isAggD ei.desc = false)
    (h0 : 0 ≤ i ∧ i < n) (hv : cs[i.toNat]? = some v) (k' : FL P N ops.toArray C l ((d, v) :: e) w Kf) : FL P N ops.toArray C (⟨some d, .index t x y, tt, ps, af, g⟩ :: l) e w Kf := FL.step hg hd (yindexV hT hT' hx hy ht htd he hs ha h0 hv).in k'
end
end Go.Lt
namespace Go.Proofs.Ytmaekaflpbenmaa
open Go Go.Lt Go.RowKit
set_option linter.unusedVariables false
set_option linter.unusedSimpArgs false

theorem imply_c1 (o a b : Int) (w : World) (h : 0 ≤ o ∧ o ≤ 9223372036854775806) (h2 : o % 2 = 0) : Lt.Spec Try.prog 129 [.int .i64 o, .int .i64 a, .int .i64 b] w (IsFresh 1 encI 3 w [o + 1, a]) := by
  have e : Lt.xor1 o = o + 1 := by unfold Lt.xor1; rw [if_pos h2]
  rw [← e]
  refine Spec.of _ Try.func129 rfl Try.ntmps129 (by kernel_rfl) rfl ?_
  repeat' (first
    | ((apply WL.xor1; exact rfl; exact rfl; exact rfl; exact rfl; omega))
    | (apply WL.lit tOk; exact rfl; exact rfl; exact rfl; exact rfl; exact rfl; exact rfl; (first | exact rfl | kernel_rfl | (simp [Instr.fill, catCells]; done)); exact rfl; intro gb w' hb hge hc hx; have hO := Own.of_block ([Lt.xor1 o, a]) encI_ok hb hge rfl)
    | (show WL _ _ _ _ _ _ _; first | apply WL.nil | (apply WL.pev tOk; exact rfl; exact rfl; exact rfl) | (apply WL.load tOk; exact rfl; exact rfl; exact rfl; exact rfl; exact rfl; (first | assumption | (focus (apply Ext.cell; rotate_left; assumption; (exact extA); done)))) | (apply WL.index tOk; exact rfl; exact rfl; exact rfl; exact rfl; exact rfl; exact rfl; exact rfl; exact rfl; assumption; (exact extA); exact rfl; omega; assumption; intro b off h; have hcc := h; first | (obtain ⟨h1, h2, h3, h4, h5, h6, _⟩ := h) | (obtain ⟨h1, h2, h3, _⟩ := h) | (obtain ⟨h1, h2, _⟩ := h) | (obtain ⟨h1, _⟩ := h)) | (apply WL.add; exact rfl; exact rfl; exact rfl; exact rfl; omega) | (apply WL.sub; exact rfl; exact rfl; exact rfl; exact rfl; omega) | (apply WL.mul; exact rfl; exact rfl; exact rfl; exact rfl; omega) | (apply WL.quo; exact rfl; exact rfl; exact rfl; exact rfl; omega) | (apply WL.rem; exact rfl; exact rfl; exact rfl; exact rfl; omega) | (apply WL.loadA tOk; exact rfl; exact rfl; exact rfl; exact rfl; exact rfl; (first | assumption | (focus (apply Cells.ext; rotate_left; assumption; (exact extA); done))); exact rfl) | (apply WL.guardF; exact rfl; exact rfl) | (apply WL.gD; exact rfl; exact rfl; all_goals intro _) | (apply WL.gN; exact rfl; exact rfl; all_goals intro _) | (apply WL.gB; exact rfl; exact rfl; all_goals intro _))
    | (show Z _ _ _ _ _; first | apply Z.tail | apply Z.then_normal | apply Z.block_normal | apply Z.then_exit | apply Z.block_exit | apply Z.then_ret | apply Z.block_ret | (apply Z.block_other; exact rfl))
    | (show W _ _ _ _ _ _; first | apply W.seq | apply W.region | apply W.block | apply W.skip | apply W.ret | apply W.exit | (apply W.condT; exact rfl) | (apply W.condF; exact rfl) | (apply W.condD; exact rfl; all_goals intro _) | (apply W.condN; exact rfl; all_goals intro _) | (apply W.condB; exact rfl; all_goals intro _)))
  exact Z.body1 Try.results129 rfl fun m => ⟨hx.at m, _, _, rfl, hO.ext ((Ext.refl _).at m)⟩
theorem imply_c2 (o a b : Int) (w : World) (h : 0 ≤ o ∧ o ≤ 9223372036854775806) (h2 : o % 2 = 0) : Lt.Spec Try.prog 130 [.int .i64 o, .int .i64 a, .int .i64 b] w (IsFresh 1 encI 3 w [o + 1, b]) := by
  have e : Lt.xor1 o = o + 1 := by unfold Lt.xor1; rw [if_pos h2]
  rw [← e]
  refine Spec.of _ Try.func130 rfl Try.ntmps130 (by kernel_rfl) rfl ?_
  repeat' (first
    | ((apply WL.xor1; exact rfl; exact rfl; exact rfl; exact rfl; omega))
    | (apply WL.lit tOk; exact rfl; exact rfl; exact rfl; exact rfl; exact rfl; exact rfl; (first | exact rfl | kernel_rfl | (simp [Instr.fill, catCells]; done)); exact rfl; intro gb w' hb hge hc hx; have hO := Own.of_block ([Lt.xor1 o, b]) encI_ok hb hge rfl)
    | (show WL _ _ _ _ _ _ _; first | apply WL.nil | (apply WL.pev tOk; exact rfl; exact rfl; exact rfl) | (apply WL.load tOk; exact rfl; exact rfl; exact rfl; exact rfl; exact rfl; (first | assumption | (focus (apply Ext.cell; rotate_left; assumption; (exact extA); done)))) | (apply WL.index tOk; exact rfl; exact rfl; exact rfl; exact rfl; exact rfl; exact rfl; exact rfl; exact rfl; assumption; (exact extA); exact rfl; omega; assumption; intro b off h; have hcc := h; first | (obtain ⟨h1, h2, h3, h4, h5, h6, _⟩ := h) | (obtain ⟨h1, h2, h3, _⟩ := h) | (obtain ⟨h1, h2, _⟩ := h) | (obtain ⟨h1, _⟩ := h)) | (apply WL.add; exact rfl; exact rfl; exact rfl; exact rfl; omega) | (apply WL.sub; exact rfl; exact rfl; exact rfl; exact rfl; omega) | (apply WL.mul; exact rfl; exact rfl; exact rfl; exact rfl; omega) | (apply WL.quo; exact rfl; exact rfl; exact rfl; exact rfl; omega) | (apply WL.rem; exact rfl; exact rfl; exact rfl; exact rfl; omega) | (apply WL.loadA tOk; exact rfl; exact rfl; exact rfl; exact rfl; exact rfl; (first | assumption | (focus (apply Cells.ext; rotate_left; assumption; (exact extA); done))); exact rfl) | (apply WL.guardF; exact rfl; exact rfl) | (apply WL.gD; exact rfl; exact rfl; all_goals intro _) | (apply WL.gN; exact rfl; exact rfl; all_goals intro _) | (apply WL.gB; exact rfl; exact rfl; all_goals intro _))
    | (show Z _ _ _ _ _; first | apply Z.tail | apply Z.then_normal | apply Z.block_normal | apply Z.then_exit | apply Z.block_exit | apply Z.then_ret | apply Z.block_ret | (apply Z.block_other; exact rfl))
    | (show W _ _ _ _ _ _; first | apply W.seq | apply W.region | apply W.block | apply W.skip | apply W.ret | apply W.exit | (apply W.condT; exact rfl) | (apply W.condF; exact rfl) | (apply W.condD; exact rfl; all_goals intro _) | (apply W.condN; exact rfl; all_goals intro _) | (apply W.condB; exact rfl; all_goals intro _)))
  exact Z.body1 Try.results130 rfl fun m => ⟨hx.at m, _, _, rfl, hO.ext ((Ext.refl _).at m)⟩
theorem imply_c3 (o a b : Int) (w : World) (ha : 0 ≤ a ∧ a ≤ 9223372036854775806) (hb : 0 ≤ b ∧ b ≤ 9223372036854775806) : Lt.Spec Try.prog 131 [.int .i64 o, .int .i64 a, .int .i64 b] w (IsFresh 1 encI 3 w [o, Lt.xor1 a, Lt.xor1 b]) := by
  refine Spec.of _ Try.func131 rfl Try.ntmps131 (by kernel_rfl) rfl ?_
  repeat' (first
    | ((apply WL.xor1; exact rfl; exact rfl; exact rfl; exact rfl; omega))
    | (apply WL.lit tOk; exact rfl; exact rfl; exact rfl; exact rfl; exact rfl; exact rfl; (first | exact rfl | kernel_rfl | (simp [Instr.fill, catCells]; done)); exact rfl; intro gb w' hb hge hc hx; have hO := Own.of_block ([o, Lt.xor1 a, Lt.xor1 b]) encI_ok hb hge rfl)
    | (show WL _ _ _ _ _ _ _; first | apply WL.nil | (apply WL.pev tOk; exact rfl; exact rfl; exact rfl) | (apply WL.load tOk; exact rfl; exact rfl; exact rfl; exact rfl; exact rfl; (first | assumption | (focus (apply Ext.cell; rotate_left; assumption; (exact extA); done)))) | (apply WL.index tOk; exact rfl; exact rfl; exact rfl; exact rfl; exact rfl; exact rfl; exact rfl; exact rfl; assumption; (exact extA); exact rfl; omega; assumption; intro b off h; have hcc := h; first | (obtain ⟨h1, h2, h3, h4, h5, h6, _⟩ := h) | (obtain ⟨h1, h2, h3, _⟩ := h) | (obtain ⟨h1, h2, _⟩ := h) | (obtain ⟨h1, _⟩ := h)) | (apply WL.add; exact rfl; exact rfl; exact rfl; exact rfl; omega) | (apply WL.sub; exact rfl; exact rfl; exact rfl; exact rfl; omega) | (apply WL.mul; exact rfl; exact rfl; exact rfl; exact rfl; omega) | (apply WL.quo; exact rfl; exact rfl; exact rfl; exact rfl; omega) | (apply WL.rem; exact rfl; exact rfl; exact rfl; exact rfl; omega) | (apply WL.loadA tOk; exact rfl; exact rfl; exact rfl; exact rfl; exact rfl; (first | assumption | (focus (apply Cells.ext; rotate_left; assumption; (exact extA); done))); exact rfl) | (apply WL.guardF; exact rfl; exact rfl) | (apply WL.gD; exact rfl; exact rfl; all_goals intro _) | (apply WL.gN; exact rfl; exact rfl; all_goals intro _) | (apply WL.gB; exact rfl; exact rfl; all_goals intro _))
    | (show Z _ _ _ _ _; first | apply Z.tail | apply Z.then_normal | apply Z.block_normal | apply Z.then_exit | apply Z.block_exit | apply Z.then_ret | apply Z.block_ret | (apply Z.block_other; exact rfl))
    | (show W _ _ _ _ _ _; first | apply W.seq | apply W.region | apply W.block | apply W.skip | apply W.ret | apply W.exit | (apply W.condT; exact rfl) | (apply W.condF; exact rfl) | (apply W.condD; exact rfl; all_goals intro _) | (apply W.condN; exact rfl; all_goals intro _) | (apply W.condB; exact rfl; all_goals intro _)))
  exact Z.body1 Try.results131 rfl fun m => ⟨hx.at m, _, _, rfl, hO.ext ((Ext.refl _).at m)⟩
abbrev clauseF : Value := .agg #[.func (.func 129) #[] #[], .func (.func 130) #[] #[], .func (.func 131) #[] #[]]
def Tg : Tab := [(130, ⟨.func #[3, 3, 3] #[23] false, 1, 8, .nilFunc⟩)]
theorem tgOk : OkTab Try.prog Tg := ⟨⟨by kernel_rfl, by kernel_rfl⟩, trivial⟩
theorem imply_clauses (w : World) : Pure Try.prog 103 [] w clauseF := by
  refine Spec.of _ Try.func103 rfl Try.ntmps103 (by kernel_rfl) rfl ?_
  repeat' (first
    | (apply WL.alloc tOk; exact rfl; exact rfl; exact rfl; intro gb w' hb hge hx)
    | ((apply WL.buildA (cs := [.func (.func 129) #[] #[], .func (.func 130) #[] #[], .func (.func 131) #[] #[]]) tOk tgOk; exact rfl; exact rfl; exact rfl; exact rfl; exact rfl; exact rfl; kernel_rfl))
    | (apply WL.storeB (w0 := w) tOk; exact rfl; exact rfl; exact rfl; exact rfl; assumption; (exact extA); exact rfl; exact rfl; exact rfl; (exact extA); (first | assumption | omega | (focus (apply Nat.le_trans; rotate_left; assumption; exact Below.size (by (exact extA)); done))); intro w' hb hc hX' hU; have hcc := hc; obtain ⟨h1, h2, _⟩ := hc)
    | (show WL _ _ _ _ _ _ _; first | apply WL.nil | (apply WL.pev tOk; exact rfl; exact rfl; exact rfl) | (apply WL.load tOk; exact rfl; exact rfl; exact rfl; exact rfl; exact rfl; (first | assumption | (focus (apply Ext.cell; rotate_left; assumption; (exact extA); done)))) | (apply WL.index tOk; exact rfl; exact rfl; exact rfl; exact rfl; exact rfl; exact rfl; exact rfl; exact rfl; assumption; (exact extA); exact rfl; omega; assumption; intro b off h; have hcc := h; first | (obtain ⟨h1, h2, h3, h4, h5, h6, _⟩ := h) | (obtain ⟨h1, h2, h3, _⟩ := h) | (obtain ⟨h1, h2, _⟩ := h) | (obtain ⟨h1, _⟩ := h)) | (apply WL.add; exact rfl; exact rfl; exact rfl; exact rfl; omega) | (apply WL.sub; exact rfl; exact rfl; exact rfl; exact rfl; omega) | (apply WL.mul; exact rfl; exact rfl; exact rfl; exact rfl; omega) | (apply WL.quo; exact rfl; exact rfl; exact rfl; exact rfl; omega) | (apply WL.rem; exact rfl; exact rfl; exact rfl; exact rfl; omega) | (apply WL.loadA tOk; exact rfl; exact rfl; exact rfl; exact rfl; exact rfl; (first | assumption | (focus (apply Cells.ext; rotate_left; assumption; (exact extA); done))); exact rfl) | (apply WL.guardF; exact rfl; exact rfl) | (apply WL.gD; exact rfl; exact rfl; all_goals intro _) | (apply WL.gN; exact rfl; exact rfl; all_goals intro _) | (apply WL.gB; exact rfl; exact rfl; all_goals intro _))
    | (show Z _ _ _ _ _; first | apply Z.tail | apply Z.then_normal | apply Z.block_normal | apply Z.then_exit | apply Z.block_exit | apply Z.then_ret | apply Z.block_ret | (apply Z.block_other; exact rfl))
    | (show W _ _ _ _ _ _; first | apply W.seq | apply W.region | apply W.block | apply W.skip | apply W.ret | apply W.exit | (apply W.condT; exact rfl) | (apply W.condF; exact rfl) | (apply W.condD; exact rfl; all_goals intro _) | (apply W.condN; exact rfl; all_goals intro _) | (apply W.condB; exact rfl; all_goals intro _)))
  exact Z.bodyC tOk Try.results103 rfl rfl rfl rfl hcc fun m => ⟨rfl, Ext.at (by assumption) m⟩

/-- Rules of a net, in memory of their own. -/
def RulesD (b : Nat) (w : World) (gr : Nat) (n : List (Int × Int)) (an : Option Addr) (cn : Nat) (ao : Option Addr) (co : Nat) (rs : List (RowV Int)) : Prop :=
  b ≤ gr ∧ w.heap[gr]? = some (.cells #[.slice an n.length cn, .slice ao rs.length co] 122 (0, 0)) ∧ Own 2 encN 56 b w an cn n ∧ OwnRR 1 encI 3 23 b w ao co rs ∧ rs.map (·.2.2) = tab (n.length + 1) (fanL n)
def RulesAt (b : Nat) (w : World) (gr : Nat) (n : List (Int × Int)) : Prop := ∃ an cn ao co rs, RulesD b w gr n an cn ao co rs
theorem RulesD.keep {b gr : Nat} {w w' : World} {n : List (Int × Int)} {an ao : Option Addr} {cn co : Nat} {rs : List (RowV Int)} (h : RulesD b w gr n an cn ao co rs) (hb : ∀ k, b ≤ k → k < w.heap.size → w'.heap[k]? = w.heap[k]?) : RulesD b w' gr n an cn ao co rs := by
  obtain ⟨h1, h2, h3, h4, h5⟩ := h
  exact ⟨h1, by rw [hb gr h1 (heap_lt h2)]; exact h2, h3.keep fun k hk => hb k (h3.blk_lt k hk).1 (h3.blk_lt k hk).2, h4.keep hb, h5⟩
theorem RulesAt.keep {b gr : Nat} {w w' : World} {n : List (Int × Int)} (h : RulesAt b w gr n) (hb : ∀ k, b ≤ k → k < w.heap.size → w'.heap[k]? = w.heap[k]?) : RulesAt b w' gr n := by
  obtain ⟨an, cn, ao, co, rs, h1⟩ := h
  exact ⟨an, cn, ao, co, rs, h1.keep hb⟩
theorem RulesAt.ext {b gr : Nat} {w w' : World} {n : List (Int × Int)} (h : RulesAt b w gr n) (hx : Ext w w') : RulesAt b w' gr n := h.keep fun k _ hk => hx.block k hk
/-- A clause by its number. -/
def clW (n : List (Int × Int)) (why : Int) : List Int :=
  if why < 3 ∨ (n.length : Int) < why / 3 then [] else match n[(why / 3 - 1).toNat]? with | some x => clL (why / 3) (why % 3).toNat x | none => []
theorem clW_at {n : List (Int × Int)} {k r : Nat} {x : Int × Int} (hx : n[k]? = some x) (hr : r < 3) {why : Int} (hw : why = 3 * ((k : Int) + 1) + r) : clW n why = clL ((k : Int) + 1) r x := by
  have hk := lt_of_get hx
  unfold clW
  rw [if_neg (by omega), show (why / 3 - 1).toNat = k by omega, hx]
  show clL _ _ _ = _
  rw [show why / 3 = (k : Int) + 1 by omega, show (why % 3).toNat = r by omega]
set_option maxHeartbeats 4000000 in
theorem imply_Clause (b gr : Nat) (n : List (Int × Int)) (why : Int) (w : World) (h : RulesAt b w gr n) (hg : GoodNet n) (hn : n.length ≤ 1048576) (hw : why ≤ 9223372036854775807) :
    Lt.Spec Try.prog 50 [.pointer (some ⟨gr, 0, none⟩), .int .i64 why] w (IsFresh 1 encI 3 w (clW n why)) := by
  obtain ⟨an, cn, ao, co, rs, h1, h2, h3, h4, h5⟩ := h
  have hc := cells_heap h2
  have c0 := hc.1
  have Rn := Own.row encN_ok h3
  by_cases hout : why < 3 ∨ (n.length : Int) < why / 3
  · rw [clW, if_pos hout]
    refine Spec.of _ Try.func50 rfl Try.ntmps50 (by kernel_rfl) rfl ?_
    repeat' (first
      | (apply WL.nilc; exact rfl; exact rfl; exact rfl)
      | (apply WL.eqNilS tOk; exact rfl; exact rfl; exact rfl; exact rfl; exact rfl; exact rfl)
      | (apply WL.neNilS tOk; exact rfl; exact rfl; exact rfl; exact rfl; exact rfl; exact rfl)
      | (apply WL.eqNil tOk; exact rfl; exact rfl; exact rfl; exact rfl; exact rfl; exact rfl)
      | (apply WL.neNil tOk; exact rfl; exact rfl; exact rfl; exact rfl; exact rfl; exact rfl)
      | (apply WL.gT; exact rfl; exact rfl; (focus (first | exact dec_true (by omega) | exact dec_false (by omega); done)))
      | (apply WL.gF; exact rfl; exact rfl; (focus (first | exact dec_true (by omega) | exact dec_false (by omega); done)))
      | (apply W.condKT; exact rfl; (focus (first | exact dec_true (by omega) | exact dec_false (by omega); done)))
      | (apply W.condKF; exact rfl; (focus (first | exact dec_true (by omega) | exact dec_false (by omega); done)))
      | (show WL _ _ _ _ _ _ _; first | apply WL.nil | (apply WL.pev tOk; exact rfl; exact rfl; exact rfl) | (apply WL.load tOk; exact rfl; exact rfl; exact rfl; exact rfl; exact rfl; (first | assumption | (focus (apply Ext.cell; rotate_left; assumption; (exact extA); done)))) | (apply WL.index tOk; exact rfl; exact rfl; exact rfl; exact rfl; exact rfl; exact rfl; exact rfl; exact rfl; assumption; (exact extA); exact rfl; omega; assumption; intro b off h; have hcc := h; first | (obtain ⟨h1, h2, h3, h4, h5, h6, _⟩ := h) | (obtain ⟨h1, h2, h3, _⟩ := h) | (obtain ⟨h1, h2, _⟩ := h) | (obtain ⟨h1, _⟩ := h)) | (apply WL.add; exact rfl; exact rfl; exact rfl; exact rfl; omega) | (apply WL.sub; exact rfl; exact rfl; exact rfl; exact rfl; omega) | (apply WL.mul; exact rfl; exact rfl; exact rfl; exact rfl; omega) | (apply WL.quo; exact rfl; exact rfl; exact rfl; exact rfl; omega) | (apply WL.rem; exact rfl; exact rfl; exact rfl; exact rfl; omega) | (apply WL.loadA tOk; exact rfl; exact rfl; exact rfl; exact rfl; exact rfl; (first | assumption | (focus (apply Cells.ext; rotate_left; assumption; (exact extA); done))); exact rfl) | (apply WL.guardF; exact rfl; exact rfl) | (apply WL.gD; exact rfl; exact rfl; all_goals intro _) | (apply WL.gN; exact rfl; exact rfl; all_goals intro _) | (apply WL.gB; exact rfl; exact rfl; all_goals intro _))
      | (show Z _ _ _ _ _; first | apply Z.tail | apply Z.then_normal | apply Z.block_normal | apply Z.then_exit | apply Z.block_exit | apply Z.then_ret | apply Z.block_ret | (apply Z.block_other; exact rfl))
      | (show W _ _ _ _ _ _; first | apply W.seq | apply W.region | apply W.block | apply W.skip | apply W.ret | apply W.exit | (apply W.condT; exact rfl) | (apply W.condF; exact rfl) | (apply W.condD; exact rfl; all_goals intro _) | (apply W.condN; exact rfl; all_goals intro _) | (apply W.condB; exact rfl; all_goals intro _)))
    all_goals exact Z.body1 Try.results50 rfl fun m => ⟨(Ext.refl _).at m, none, 0, rfl, Own.nil⟩
  obtain ⟨x, hx⟩ := getI n (show (why / 3 - 1).toNat < n.length by omega)
  rw [clW, if_neg hout, hx]
  show Lt.Spec _ _ _ _ (IsFresh 1 encI 3 w (clL (why / 3) (why % 3).toNat x))
  by_cases hi : x.1 < 0
  · rw [clL, if_pos hi]
    refine Spec.of _ Try.func50 rfl Try.ntmps50 (by kernel_rfl) rfl ?_
    repeat' (first
      | (apply WL.nilc; exact rfl; exact rfl; exact rfl)
      | (apply WL.eqNilS tOk; exact rfl; exact rfl; exact rfl; exact rfl; exact rfl; exact rfl)
      | (apply WL.neNilS tOk; exact rfl; exact rfl; exact rfl; exact rfl; exact rfl; exact rfl)
      | (apply WL.eqNil tOk; exact rfl; exact rfl; exact rfl; exact rfl; exact rfl; exact rfl)
      | (apply WL.neNil tOk; exact rfl; exact rfl; exact rfl; exact rfl; exact rfl; exact rfl)
      | (apply WL.gT; exact rfl; exact rfl; (focus (first | exact dec_true hi | exact dec_true (by omega) | exact dec_false (by omega); done)))
      | (apply WL.gF; exact rfl; exact rfl; (focus (first | exact dec_true hi | exact dec_true (by omega) | exact dec_false (by omega); done)))
      | (apply W.condKT; exact rfl; (focus (first | exact dec_true hi | exact dec_true (by omega) | exact dec_false (by omega); done)))
      | (apply W.condKF; exact rfl; (focus (first | exact dec_true hi | exact dec_true (by omega) | exact dec_false (by omega); done)))
      | (show WL _ _ _ _ _ _ _; first | apply WL.nil | (apply WL.pev tOk; exact rfl; exact rfl; exact rfl) | (apply WL.load tOk; exact rfl; exact rfl; exact rfl; exact rfl; exact rfl; (first | assumption | (focus (apply Ext.cell; rotate_left; assumption; (exact extA); done)))) | (apply WL.index tOk; exact rfl; exact rfl; exact rfl; exact rfl; exact rfl; exact rfl; exact rfl; exact rfl; assumption; (exact extA); exact rfl; omega; assumption; intro b off h; have hcc := h; first | (obtain ⟨h1, h2, h3, h4, h5, h6, _⟩ := h) | (obtain ⟨h1, h2, h3, _⟩ := h) | (obtain ⟨h1, h2, _⟩ := h) | (obtain ⟨h1, _⟩ := h)) | (apply WL.add; exact rfl; exact rfl; exact rfl; exact rfl; omega) | (apply WL.sub; exact rfl; exact rfl; exact rfl; exact rfl; omega) | (apply WL.mul; exact rfl; exact rfl; exact rfl; exact rfl; omega) | (apply WL.quo; exact rfl; exact rfl; exact rfl; exact rfl; omega) | (apply WL.rem; exact rfl; exact rfl; exact rfl; exact rfl; omega) | (apply WL.loadA tOk; exact rfl; exact rfl; exact rfl; exact rfl; exact rfl; (first | assumption | (focus (apply Cells.ext; rotate_left; assumption; (exact extA); done))); exact rfl) | (apply WL.guardF; exact rfl; exact rfl) | (apply WL.gD; exact rfl; exact rfl; all_goals intro _) | (apply WL.gN; exact rfl; exact rfl; all_goals intro _) | (apply WL.gB; exact rfl; exact rfl; all_goals intro _))
      | (show Z _ _ _ _ _; first | apply Z.tail | apply Z.then_normal | apply Z.block_normal | apply Z.then_exit | apply Z.block_exit | apply Z.then_ret | apply Z.block_ret | (apply Z.block_other; exact rfl))
      | (show W _ _ _ _ _ _; first | apply W.seq | apply W.region | apply W.block | apply W.skip | apply W.ret | apply W.exit | (apply W.condT; exact rfl) | (apply W.condF; exact rfl) | (apply W.condD; exact rfl; all_goals intro _) | (apply W.condN; exact rfl; all_goals intro _) | (apply W.condB; exact rfl; all_goals intro _)))
    all_goals exact Z.body1 Try.results50 rfl fun m => ⟨(Ext.refl _).at m, none, 0, rfl, Own.nil⟩
  have hgx := hg.gate hx (by omega)
  have ev : why / 3 * 2 = 2 * (why / 3) := by omega
  rw [clL, if_neg hi]
  by_cases r0 : why % 3 = 0
  · rw [if_pos (by omega), ← ev]
    refine Spec.of _ Try.func50 rfl Try.ntmps50 (by kernel_rfl) rfl ?_
    repeat' (first
      | (apply WL.nilc; exact rfl; exact rfl; exact rfl)
      | (apply WL.eqNilS tOk; exact rfl; exact rfl; exact rfl; exact rfl; exact rfl; exact rfl)
      | (apply WL.neNilS tOk; exact rfl; exact rfl; exact rfl; exact rfl; exact rfl; exact rfl)
      | (apply WL.eqNil tOk; exact rfl; exact rfl; exact rfl; exact rfl; exact rfl; exact rfl)
      | (apply WL.neNil tOk; exact rfl; exact rfl; exact rfl; exact rfl; exact rfl; exact rfl)
      | (apply WL.alloc tOk; exact rfl; exact rfl; exact rfl; intro gb w' hb hge hx)
      | (apply WL.storeB (w0 := w) tOk; exact rfl; exact rfl; exact rfl; exact rfl; assumption; (exact extA); exact rfl; exact rfl; exact rfl; (exact extA); (first | assumption | omega | (focus (apply Nat.le_trans; rotate_left; assumption; exact Below.size (by (exact extA)); done))); intro w' hb hc hX' hU; have hcc := hc; obtain ⟨h1, h2, _⟩ := hc)
      | (apply WL.gT; exact rfl; exact rfl; (focus (first | exact dec_false hi | exact dec_true (by omega) | exact dec_false (by omega); done)))
      | (apply WL.gF; exact rfl; exact rfl; (focus (first | exact dec_false hi | exact dec_true (by omega) | exact dec_false (by omega); done)))
      | (apply SL.gT; exact rfl; exact rfl; (focus (first | exact dec_false hi | exact dec_true (by omega) | exact dec_false (by omega); done)))
      | (apply SL.gF; exact rfl; exact rfl; (focus (first | exact dec_false hi | exact dec_true (by omega) | exact dec_false (by omega); done)))
      | (apply W.condKT; exact rfl; (focus (first | exact dec_false hi | exact dec_true (by omega) | exact dec_false (by omega); done)))
      | (apply W.condKF; exact rfl; (focus (first | exact dec_false hi | exact dec_true (by omega) | exact dec_false (by omega); done)))
      | (show W _ _ (.region 4 _ _) _ _ _; apply W.regionGX (.fl true 1 (.fl true 2 (.fl true 4 (.fl true 5 (.fl true 6 (.fl true 7 (.fl true 9 (.fl false 8 (.fl false 10 (.fl false 0 (.br 3 (.br 11 (.fl true 12 .done) .stop) .stop))))))))))) [0, 3, 10] tMix; kernel_rfl)
      | (apply SX.flP; exact rfl; (exact extA); exact rfl; exact rfl; exact rfl; exact rfl; (focus (intro w9 hw9; exact imply_clauses _)))
      | ((apply WL.indexV tOk tgOk; exact rfl; exact rfl; exact rfl; exact rfl; exact rfl; exact rfl; exact rfl; exact rfl; exact rfl; omega; (rw [r0]; exact rfl)))
      | ((show WL _ _ _ (⟨_, .call ⟨.value (.tmp _), _, _⟩, _, _, _, _⟩ :: _) _ _ _; apply WL.call; exact rfl; exact rfl; exact rfl; exact rfl; exact imply_c1 _ _ _ _ (by omega) (by omega); rintro v' w9 ⟨hx9, a9, c9, rfl, hO9⟩))
      | (show WL _ _ _ _ _ _ _; first | apply WL.nil | (apply WL.pev tOk; exact rfl; exact rfl; exact rfl) | (apply WL.load tOk; exact rfl; exact rfl; exact rfl; exact rfl; exact rfl; (first | assumption | (focus (apply Ext.cell; rotate_left; assumption; (exact extA); done)))) | (apply WL.index tOk; exact rfl; exact rfl; exact rfl; exact rfl; exact rfl; exact rfl; exact rfl; exact rfl; assumption; (exact extA); exact rfl; omega; assumption; intro b off h; have hcc := h; first | (obtain ⟨h1, h2, h3, h4, h5, h6, _⟩ := h) | (obtain ⟨h1, h2, h3, _⟩ := h) | (obtain ⟨h1, h2, _⟩ := h) | (obtain ⟨h1, _⟩ := h)) | (apply WL.add; exact rfl; exact rfl; exact rfl; exact rfl; omega) | (apply WL.sub; exact rfl; exact rfl; exact rfl; exact rfl; omega) | (apply WL.mul; exact rfl; exact rfl; exact rfl; exact rfl; omega) | (apply WL.quo; exact rfl; exact rfl; exact rfl; exact rfl; omega) | (apply WL.rem; exact rfl; exact rfl; exact rfl; exact rfl; omega) | (apply WL.loadA tOk; exact rfl; exact rfl; exact rfl; exact rfl; exact rfl; (first | assumption | (focus (apply Cells.ext; rotate_left; assumption; (exact extA); done))); exact rfl) | (apply WL.guardF; exact rfl; exact rfl) | (apply WL.gD; exact rfl; exact rfl; all_goals intro _) | (apply WL.gN; exact rfl; exact rfl; all_goals intro _) | (apply WL.gB; exact rfl; exact rfl; all_goals intro _))
      | (show SX _ _ _ _ _ _ _ _ _; first | (apply SX.done; intro w' hx) | apply SX.stop | (apply SX.fl0; exact rfl) | (apply SX.fl1; exact rfl; (exact extA)) | (apply SX.br1; exact rfl; intro w' hx) | (apply SX.br; exact rfl; (intro w' hx)))
      | (show FL _ _ _ _ _ _ _ _; first | apply FL.nilX | (apply FL.loadE tOk; exact rfl; exact rfl; exact rfl; exact rfl; exact rfl; assumption) | (apply FL.loadAE tOk; exact rfl; exact rfl; exact rfl; exact rfl; exact rfl; assumption; exact rfl) | (apply FL.indexE tOk; exact rfl; exact rfl; exact rfl; exact rfl; exact rfl; exact rfl; exact rfl; exact rfl; assumption; exact rfl; omega; assumption; intro b off h; have hcc := h; first | (obtain ⟨h1, h2, h3, h4, h5, h6, _⟩ := h) | (obtain ⟨h1, h2, h3, _⟩ := h) | (obtain ⟨h1, h2, _⟩ := h) | (obtain ⟨h1, _⟩ := h)))
      | (show FL _ _ _ _ _ _ _ _; first | apply FL.nilX | (apply FL.pev tOk; exact rfl; exact rfl; exact rfl) | (apply FL.loadG tOk; exact rfl; exact rfl; exact rfl; exact rfl; exact rfl; (first | assumption | (focus (apply Ext.cell; rotate_left; assumption; (exact extA); done))); (first | (focus (intro h; cases h; done)) | (focus (intro h; have h9 := hBC _ h; (try simp only at h9); omega)) | assumption | (focus (intro h; simp only [blk, Option.map_some, Option.some.injEq] at h; omega)))) | (apply FL.index tOk; exact rfl; exact rfl; exact rfl; exact rfl; exact rfl; exact rfl; exact rfl; exact rfl; assumption; (exact extA); exact rfl; omega; assumption; exact List.cons_ne_nil _ _; intro b off h hbl; have hcc := h; first | (obtain ⟨h1, h2, h3, h4, h5, h6, _⟩ := h) | (obtain ⟨h1, h2, h3, _⟩ := h) | (obtain ⟨h1, h2, _⟩ := h) | (obtain ⟨h1, _⟩ := h)) | (apply FL.add; exact rfl; exact rfl; exact rfl; exact rfl; omega) | (apply FL.sub; exact rfl; exact rfl; exact rfl; exact rfl; omega) | (apply FL.mul; exact rfl; exact rfl; exact rfl; exact rfl; omega) | (apply FL.quo; exact rfl; exact rfl; exact rfl; exact rfl; omega) | (apply FL.rem; exact rfl; exact rfl; exact rfl; exact rfl; omega) | (apply FL.loadAG tOk; exact rfl; exact rfl; exact rfl; exact rfl; exact rfl; (first | assumption | (focus (apply Cells.ext; rotate_left; assumption; (exact extA); done))); exact rfl; (first | (focus (intro h; cases h; done)) | (focus (intro h; have h9 := hBC _ h; (try simp only at h9); omega)) | assumption | (focus (intro h; simp only [blk, Option.map_some, Option.some.injEq] at h; omega)))) | (apply FL.guardF; exact rfl; exact rfl) | (apply FL.gD; exact rfl; exact rfl; all_goals intro _) | (apply FL.gN; exact rfl; exact rfl; all_goals intro _) | (apply FL.gB; exact rfl; exact rfl; all_goals intro _))
      | (show Z _ _ _ _ _; first | (apply Z.sxL; exact rfl) | (apply Z.sxE; (exact extA)))
      | (show SL _ _ _ _ _ _ _; first | apply SL.nil | (apply SL.pev tOk; exact rfl; exact rfl; exact rfl) | (apply SL.load tOk; exact rfl; exact rfl; exact rfl; exact rfl; exact rfl; (first | assumption | (focus (apply Ext.cell; rotate_left; assumption; (exact extA); done)))) | (apply SL.index tOk; exact rfl; exact rfl; exact rfl; exact rfl; exact rfl; exact rfl; exact rfl; exact rfl; assumption; (exact extA); exact rfl; omega; assumption; intro b off h; have hcc := h; first | (obtain ⟨h1, h2, h3, h4, h5, h6, _⟩ := h) | (obtain ⟨h1, h2, h3, _⟩ := h) | (obtain ⟨h1, h2, _⟩ := h) | (obtain ⟨h1, _⟩ := h)) | (apply SL.add; exact rfl; exact rfl; exact rfl; exact rfl; omega) | (apply SL.sub; exact rfl; exact rfl; exact rfl; exact rfl; omega) | (apply SL.mul; exact rfl; exact rfl; exact rfl; exact rfl; omega) | (apply SL.quo; exact rfl; exact rfl; exact rfl; exact rfl; omega) | (apply SL.rem; exact rfl; exact rfl; exact rfl; exact rfl; omega) | (apply SL.loadA tOk; exact rfl; exact rfl; exact rfl; exact rfl; exact rfl; (first | assumption | (focus (apply Cells.ext; rotate_left; assumption; (exact extA); done))); exact rfl) | (apply SL.guardF; exact rfl; exact rfl) | (apply SL.gD; exact rfl; exact rfl; all_goals intro _) | (apply SL.gN; exact rfl; exact rfl; all_goals intro _) | (apply SL.gB; exact rfl; exact rfl; all_goals intro _))
      | (show Z _ _ _ _ _; first | apply Z.tail | apply Z.then_normal | apply Z.block_normal | apply Z.then_exit | apply Z.block_exit | apply Z.then_ret | apply Z.block_ret | (apply Z.block_other; exact rfl))
      | (show W _ _ _ _ _ _; first | apply W.seq | apply W.region | apply W.block | apply W.skip | apply W.ret | apply W.exit | (apply W.condT; exact rfl) | (apply W.condF; exact rfl) | (apply W.condD; exact rfl; all_goals intro _) | (apply W.condN; exact rfl; all_goals intro _) | (apply W.condB; exact rfl; all_goals intro _)))
    exact Z.body1 Try.results50 rfl fun m => ⟨Ext.at (by (exact extA)) m, a9, c9, rfl, (hO9.base (Below.size (by (exact extA)))).ext (Ext.at (by (exact extA)) m)⟩
  by_cases r1 : why % 3 = 1
  · rw [if_neg (by omega), if_pos (by omega), ← ev]
    refine Spec.of _ Try.func50 rfl Try.ntmps50 (by kernel_rfl) rfl ?_
    repeat' (first
      | (apply WL.nilc; exact rfl; exact rfl; exact rfl)
      | (apply WL.eqNilS tOk; exact rfl; exact rfl; exact rfl; exact rfl; exact rfl; exact rfl)
      | (apply WL.neNilS tOk; exact rfl; exact rfl; exact rfl; exact rfl; exact rfl; exact rfl)
      | (apply WL.eqNil tOk; exact rfl; exact rfl; exact rfl; exact rfl; exact rfl; exact rfl)
      | (apply WL.neNil tOk; exact rfl; exact rfl; exact rfl; exact rfl; exact rfl; exact rfl)
      | (apply WL.alloc tOk; exact rfl; exact rfl; exact rfl; intro gb w' hb hge hx)
      | (apply WL.storeB (w0 := w) tOk; exact rfl; exact rfl; exact rfl; exact rfl; assumption; (exact extA); exact rfl; exact rfl; exact rfl; (exact extA); (first | assumption | omega | (focus (apply Nat.le_trans; rotate_left; assumption; exact Below.size (by (exact extA)); done))); intro w' hb hc hX' hU; have hcc := hc; obtain ⟨h1, h2, _⟩ := hc)
      | (apply WL.gT; exact rfl; exact rfl; (focus (first | exact dec_false hi | exact dec_true (by omega) | exact dec_false (by omega); done)))
      | (apply WL.gF; exact rfl; exact rfl; (focus (first | exact dec_false hi | exact dec_true (by omega) | exact dec_false (by omega); done)))
      | (apply SL.gT; exact rfl; exact rfl; (focus (first | exact dec_false hi | exact dec_true (by omega) | exact dec_false (by omega); done)))
      | (apply SL.gF; exact rfl; exact rfl; (focus (first | exact dec_false hi | exact dec_true (by omega) | exact dec_false (by omega); done)))
      | (apply W.condKT; exact rfl; (focus (first | exact dec_false hi | exact dec_true (by omega) | exact dec_false (by omega); done)))
      | (apply W.condKF; exact rfl; (focus (first | exact dec_false hi | exact dec_true (by omega) | exact dec_false (by omega); done)))
      | (show W _ _ (.region 4 _ _) _ _ _; apply W.regionGX (.fl true 1 (.fl true 2 (.fl true 4 (.fl true 5 (.fl true 6 (.fl true 7 (.fl true 9 (.fl false 8 (.fl false 10 (.fl false 0 (.br 3 (.br 11 (.fl true 12 .done) .stop) .stop))))))))))) [0, 3, 10] tMix; kernel_rfl)
      | (apply SX.flP; exact rfl; (exact extA); exact rfl; exact rfl; exact rfl; exact rfl; (focus (intro w9 hw9; exact imply_clauses _)))
      | ((apply WL.indexV tOk tgOk; exact rfl; exact rfl; exact rfl; exact rfl; exact rfl; exact rfl; exact rfl; exact rfl; exact rfl; omega; (rw [r1]; exact rfl)))
      | ((show WL _ _ _ (⟨_, .call ⟨.value (.tmp _), _, _⟩, _, _, _, _⟩ :: _) _ _ _; apply WL.call; exact rfl; exact rfl; exact rfl; exact rfl; exact imply_c2 _ _ _ _ (by omega) (by omega); rintro v' w9 ⟨hx9, a9, c9, rfl, hO9⟩))
      | (show WL _ _ _ _ _ _ _; first | apply WL.nil | (apply WL.pev tOk; exact rfl; exact rfl; exact rfl) | (apply WL.load tOk; exact rfl; exact rfl; exact rfl; exact rfl; exact rfl; (first | assumption | (focus (apply Ext.cell; rotate_left; assumption; (exact extA); done)))) | (apply WL.index tOk; exact rfl; exact rfl; exact rfl; exact rfl; exact rfl; exact rfl; exact rfl; exact rfl; assumption; (exact extA); exact rfl; omega; assumption; intro b off h; have hcc := h; first | (obtain ⟨h1, h2, h3, h4, h5, h6, _⟩ := h) | (obtain ⟨h1, h2, h3, _⟩ := h) | (obtain ⟨h1, h2, _⟩ := h) | (obtain ⟨h1, _⟩ := h)) | (apply WL.add; exact rfl; exact rfl; exact rfl; exact rfl; omega) | (apply WL.sub; exact rfl; exact rfl; exact rfl; exact rfl; omega) | (apply WL.mul; exact rfl; exact rfl; exact rfl; exact rfl; omega) | (apply WL.quo; exact rfl; exact rfl; exact rfl; exact rfl; omega) | (apply WL.rem; exact rfl; exact rfl; exact rfl; exact rfl; omega) | (apply WL.loadA tOk; exact rfl; exact rfl; exact rfl; exact rfl; exact rfl; (first | assumption | (focus (apply Cells.ext; rotate_left; assumption; (exact extA); done))); exact rfl) | (apply WL.guardF; exact rfl; exact rfl) | (apply WL.gD; exact rfl; exact rfl; all_goals intro _) | (apply WL.gN; exact rfl; exact rfl; all_goals intro _) | (apply WL.gB; exact rfl; exact rfl; all_goals intro _))
      | (show SX _ _ _ _ _ _ _ _ _; first | (apply SX.done; intro w' hx) | apply SX.stop | (apply SX.fl0; exact rfl) | (apply SX.fl1; exact rfl; (exact extA)) | (apply SX.br1; exact rfl; intro w' hx) | (apply SX.br; exact rfl; (intro w' hx)))
      | (show FL _ _ _ _ _ _ _ _; first | apply FL.nilX | (apply FL.loadE tOk; exact rfl; exact rfl; exact rfl; exact rfl; exact rfl; assumption) | (apply FL.loadAE tOk; exact rfl; exact rfl; exact rfl; exact rfl; exact rfl; assumption; exact rfl) | (apply FL.indexE tOk; exact rfl; exact rfl; exact rfl; exact rfl; exact rfl; exact rfl; exact rfl; exact rfl; assumption; exact rfl; omega; assumption; intro b off h; have hcc := h; first | (obtain ⟨h1, h2, h3, h4, h5, h6, _⟩ := h) | (obtain ⟨h1, h2, h3, _⟩ := h) | (obtain ⟨h1, h2, _⟩ := h) | (obtain ⟨h1, _⟩ := h)))
      | (show FL _ _ _ _ _ _ _ _; first | apply FL.nilX | (apply FL.pev tOk; exact rfl; exact rfl; exact rfl) | (apply FL.loadG tOk; exact rfl; exact rfl; exact rfl; exact rfl; exact rfl; (first | assumption | (focus (apply Ext.cell; rotate_left; assumption; (exact extA); done))); (first | (focus (intro h; cases h; done)) | (focus (intro h; have h9 := hBC _ h; (try simp only at h9); omega)) | assumption | (focus (intro h; simp only [blk, Option.map_some, Option.some.injEq] at h; omega)))) | (apply FL.index tOk; exact rfl; exact rfl; exact rfl; exact rfl; exact rfl; exact rfl; exact rfl; exact rfl; assumption; (exact extA); exact rfl; omega; assumption; exact List.cons_ne_nil _ _; intro b off h hbl; have hcc := h; first | (obtain ⟨h1, h2, h3, h4, h5, h6, _⟩ := h) | (obtain ⟨h1, h2, h3, _⟩ := h) | (obtain ⟨h1, h2, _⟩ := h) | (obtain ⟨h1, _⟩ := h)) | (apply FL.add; exact rfl; exact rfl; exact rfl; exact rfl; omega) | (apply FL.sub; exact rfl; exact rfl; exact rfl; exact rfl; omega) | (apply FL.mul; exact rfl; exact rfl; exact rfl; exact rfl; omega) | (apply FL.quo; exact rfl; exact rfl; exact rfl; exact rfl; omega) | (apply FL.rem; exact rfl; exact rfl; exact rfl; exact rfl; omega) | (apply FL.loadAG tOk; exact rfl; exact rfl; exact rfl; exact rfl; exact rfl; (first | assumption | (focus (apply Cells.ext; rotate_left; assumption; (exact extA); done))); exact rfl; (first | (focus (intro h; cases h; done)) | (focus (intro h; have h9 := hBC _ h; (try simp only at h9); omega)) | assumption | (focus (intro h; simp only [blk, Option.map_some, Option.some.injEq] at h; omega)))) | (apply FL.guardF; exact rfl; exact rfl) | (apply FL.gD; exact rfl; exact rfl; all_goals intro _) | (apply FL.gN; exact rfl; exact rfl; all_goals intro _) | (apply FL.gB; exact rfl; exact rfl; all_goals intro _))
      | (show Z _ _ _ _ _; first | (apply Z.sxL; exact rfl) | (apply Z.sxE; (exact extA)))
      | (show SL _ _ _ _ _ _ _; first | apply SL.nil | (apply SL.pev tOk; exact rfl; exact rfl; exact rfl) | (apply SL.load tOk; exact rfl; exact rfl; exact rfl; exact rfl; exact rfl; (first | assumption | (focus (apply Ext.cell; rotate_left; assumption; (exact extA); done)))) | (apply SL.index tOk; exact rfl; exact rfl; exact rfl; exact rfl; exact rfl; exact rfl; exact rfl; exact rfl; assumption; (exact extA); exact rfl; omega; assumption; intro b off h; have hcc := h; first | (obtain ⟨h1, h2, h3, h4, h5, h6, _⟩ := h) | (obtain ⟨h1, h2, h3, _⟩ := h) | (obtain ⟨h1, h2, _⟩ := h) | (obtain ⟨h1, _⟩ := h)) | (apply SL.add; exact rfl; exact rfl; exact rfl; exact rfl; omega) | (apply SL.sub; exact rfl; exact rfl; exact rfl; exact rfl; omega) | (apply SL.mul; exact rfl; exact rfl; exact rfl; exact rfl; omega) | (apply SL.quo; exact rfl; exact rfl; exact rfl; exact rfl; omega) | (apply SL.rem; exact rfl; exact rfl; exact rfl; exact rfl; omega) | (apply SL.loadA tOk; exact rfl; exact rfl; exact rfl; exact rfl; exact rfl; (first | assumption | (focus (apply Cells.ext; rotate_left; assumption; (exact extA); done))); exact rfl) | (apply SL.guardF; exact rfl; exact rfl) | (apply SL.gD; exact rfl; exact rfl; all_goals intro _) | (apply SL.gN; exact rfl; exact rfl; all_goals intro _) | (apply SL.gB; exact rfl; exact rfl; all_goals intro _))
      | (show Z _ _ _ _ _; first | apply Z.tail | apply Z.then_normal | apply Z.block_normal | apply Z.then_exit | apply Z.block_exit | apply Z.then_ret | apply Z.block_ret | (apply Z.block_other; exact rfl))
      | (show W _ _ _ _ _ _; first | apply W.seq | apply W.region | apply W.block | apply W.skip | apply W.ret | apply W.exit | (apply W.condT; exact rfl) | (apply W.condF; exact rfl) | (apply W.condD; exact rfl; all_goals intro _) | (apply W.condN; exact rfl; all_goals intro _) | (apply W.condB; exact rfl; all_goals intro _)))
    exact Z.body1 Try.results50 rfl fun m => ⟨Ext.at (by (exact extA)) m, a9, c9, rfl, (hO9.base (Below.size (by (exact extA)))).ext (Ext.at (by (exact extA)) m)⟩
  have r2 : why % 3 = 2 := by omega
  · rw [if_neg (by omega), if_neg (by omega), ← ev]
    refine Spec.of _ Try.func50 rfl Try.ntmps50 (by kernel_rfl) rfl ?_
    repeat' (first
      | (apply WL.nilc; exact rfl; exact rfl; exact rfl)
      | (apply WL.eqNilS tOk; exact rfl; exact rfl; exact rfl; exact rfl; exact rfl; exact rfl)
      | (apply WL.neNilS tOk; exact rfl; exact rfl; exact rfl; exact rfl; exact rfl; exact rfl)
      | (apply WL.eqNil tOk; exact rfl; exact rfl; exact rfl; exact rfl; exact rfl; exact rfl)
      | (apply WL.neNil tOk; exact rfl; exact rfl; exact rfl; exact rfl; exact rfl; exact rfl)
      | (apply WL.alloc tOk; exact rfl; exact rfl; exact rfl; intro gb w' hb hge hx)
      | (apply WL.storeB (w0 := w) tOk; exact rfl; exact rfl; exact rfl; exact rfl; assumption; (exact extA); exact rfl; exact rfl; exact rfl; (exact extA); (first | assumption | omega | (focus (apply Nat.le_trans; rotate_left; assumption; exact Below.size (by (exact extA)); done))); intro w' hb hc hX' hU; have hcc := hc; obtain ⟨h1, h2, _⟩ := hc)
      | (apply WL.gT; exact rfl; exact rfl; (focus (first | exact dec_false hi | exact dec_true (by omega) | exact dec_false (by omega); done)))
      | (apply WL.gF; exact rfl; exact rfl; (focus (first | exact dec_false hi | exact dec_true (by omega) | exact dec_false (by omega); done)))
      | (apply SL.gT; exact rfl; exact rfl; (focus (first | exact dec_false hi | exact dec_true (by omega) | exact dec_false (by omega); done)))
      | (apply SL.gF; exact rfl; exact rfl; (focus (first | exact dec_false hi | exact dec_true (by omega) | exact dec_false (by omega); done)))
      | (apply W.condKT; exact rfl; (focus (first | exact dec_false hi | exact dec_true (by omega) | exact dec_false (by omega); done)))
      | (apply W.condKF; exact rfl; (focus (first | exact dec_false hi | exact dec_true (by omega) | exact dec_false (by omega); done)))
      | (show W _ _ (.region 4 _ _) _ _ _; apply W.regionGX (.fl true 1 (.fl true 2 (.fl true 4 (.fl true 5 (.fl true 6 (.fl true 7 (.fl true 9 (.fl false 8 (.fl false 10 (.fl false 0 (.br 3 (.br 11 (.fl true 12 .done) .stop) .stop))))))))))) [0, 3, 10] tMix; kernel_rfl)
      | (apply SX.flP; exact rfl; (exact extA); exact rfl; exact rfl; exact rfl; exact rfl; (focus (intro w9 hw9; exact imply_clauses _)))
      | ((apply WL.indexV tOk tgOk; exact rfl; exact rfl; exact rfl; exact rfl; exact rfl; exact rfl; exact rfl; exact rfl; exact rfl; omega; (rw [r2]; exact rfl)))
      | ((show WL _ _ _ (⟨_, .call ⟨.value (.tmp _), _, _⟩, _, _, _, _⟩ :: _) _ _ _; apply WL.call; exact rfl; exact rfl; exact rfl; exact rfl; exact imply_c3 _ _ _ _ (by omega) (by omega); rintro v' w9 ⟨hx9, a9, c9, rfl, hO9⟩))
      | (show WL _ _ _ _ _ _ _; first | apply WL.nil | (apply WL.pev tOk; exact rfl; exact rfl; exact rfl) | (apply WL.load tOk; exact rfl; exact rfl; exact rfl; exact rfl; exact rfl; (first | assumption | (focus (apply Ext.cell; rotate_left; assumption; (exact extA); done)))) | (apply WL.index tOk; exact rfl; exact rfl; exact rfl; exact rfl; exact rfl; exact rfl; exact rfl; exact rfl; assumption; (exact extA); exact rfl; omega; assumption; intro b off h; have hcc := h; first | (obtain ⟨h1, h2, h3, h4, h5, h6, _⟩ := h) | (obtain ⟨h1, h2, h3, _⟩ := h) | (obtain ⟨h1, h2, _⟩ := h) | (obtain ⟨h1, _⟩ := h)) | (apply WL.add; exact rfl; exact rfl; exact rfl; exact rfl; omega) | (apply WL.sub; exact rfl; exact rfl; exact rfl; exact rfl; omega) | (apply WL.mul; exact rfl; exact rfl; exact rfl; exact rfl; omega) | (apply WL.quo; exact rfl; exact rfl; exact rfl; exact rfl; omega) | (apply WL.rem; exact rfl; exact rfl; exact rfl; exact rfl; omega) | (apply WL.loadA tOk; exact rfl; exact rfl; exact rfl; exact rfl; exact rfl; (first | assumption | (focus (apply Cells.ext; rotate_left; assumption; (exact extA); done))); exact rfl) | (apply WL.guardF; exact rfl; exact rfl) | (apply WL.gD; exact rfl; exact rfl; all_goals intro _) | (apply WL.gN; exact rfl; exact rfl; all_goals intro _) | (apply WL.gB; exact rfl; exact rfl; all_goals intro _))
      | (show SX _ _ _ _ _ _ _ _ _; first | (apply SX.done; intro w' hx) | apply SX.stop | (apply SX.fl0; exact rfl) | (apply SX.fl1; exact rfl; (exact extA)) | (apply SX.br1; exact rfl; intro w' hx) | (apply SX.br; exact rfl; (intro w' hx)))
      | (show FL _ _ _ _ _ _ _ _; first | apply FL.nilX | (apply FL.loadE tOk; exact rfl; exact rfl; exact rfl; exact rfl; exact rfl; assumption) | (apply FL.loadAE tOk; exact rfl; exact rfl; exact rfl; exact rfl; exact rfl; assumption; exact rfl) | (apply FL.indexE tOk; exact rfl; exact rfl; exact rfl; exact rfl; exact rfl; exact rfl; exact rfl; exact rfl; assumption; exact rfl; omega; assumption; intro b off h; have hcc := h; first | (obtain ⟨h1, h2, h3, h4, h5, h6, _⟩ := h) | (obtain ⟨h1, h2, h3, _⟩ := h) | (obtain ⟨h1, h2, _⟩ := h) | (obtain ⟨h1, _⟩ := h)))
      | (show FL _ _ _ _ _ _ _ _; first | apply FL.nilX | (apply FL.pev tOk; exact rfl; exact rfl; exact rfl) | (apply FL.loadG tOk; exact rfl; exact rfl; exact rfl; exact rfl; exact rfl; (first | assumption | (focus (apply Ext.cell; rotate_left; assumption; (exact extA); done))); (first | (focus (intro h; cases h; done)) | (focus (intro h; have h9 := hBC _ h; (try simp only at h9); omega)) | assumption | (focus (intro h; simp only [blk, Option.map_some, Option.some.injEq] at h; omega)))) | (apply FL.index tOk; exact rfl; exact rfl; exact rfl; exact rfl; exact rfl; exact rfl; exact rfl; exact rfl; assumption; (exact extA); exact rfl; omega; assumption; exact List.cons_ne_nil _ _; intro b off h hbl; have hcc := h; first | (obtain ⟨h1, h2, h3, h4, h5, h6, _⟩ := h) | (obtain ⟨h1, h2, h3, _⟩ := h) | (obtain ⟨h1, h2, _⟩ := h) | (obtain ⟨h1, _⟩ := h)) | (apply FL.add; exact rfl; exact rfl; exact rfl; exact rfl; omega) | (apply FL.sub; exact rfl; exact rfl; exact rfl; exact rfl; omega) | (apply FL.mul; exact rfl; exact rfl; exact rfl; exact rfl; omega) | (apply FL.quo; exact rfl; exact rfl; exact rfl; exact rfl; omega) | (apply FL.rem; exact rfl; exact rfl; exact rfl; exact rfl; omega) | (apply FL.loadAG tOk; exact rfl; exact rfl; exact rfl; exact rfl; exact rfl; (first | assumption | (focus (apply Cells.ext; rotate_left; assumption; (exact extA); done))); exact rfl; (first | (focus (intro h; cases h; done)) | (focus (intro h; have h9 := hBC _ h; (try simp only at h9); omega)) | assumption | (focus (intro h; simp only [blk, Option.map_some, Option.some.injEq] at h; omega)))) | (apply FL.guardF; exact rfl; exact rfl) | (apply FL.gD; exact rfl; exact rfl; all_goals intro _) | (apply FL.gN; exact rfl; exact rfl; all_goals intro _) | (apply FL.gB; exact rfl; exact rfl; all_goals intro _))
      | (show Z _ _ _ _ _; first | (apply Z.sxL; exact rfl) | (apply Z.sxE; (exact extA)))
      | (show SL _ _ _ _ _ _ _; first | apply SL.nil | (apply SL.pev tOk; exact rfl; exact rfl; exact rfl) | (apply SL.load tOk; exact rfl; exact rfl; exact rfl; exact rfl; exact rfl; (first | assumption | (focus (apply Ext.cell; rotate_left; assumption; (exact extA); done)))) | (apply SL.index tOk; exact rfl; exact rfl; exact rfl; exact rfl; exact rfl; exact rfl; exact rfl; exact rfl; assumption; (exact extA); exact rfl; omega; assumption; intro b off h; have hcc := h; first | (obtain ⟨h1, h2, h3, h4, h5, h6, _⟩ := h) | (obtain ⟨h1, h2, h3, _⟩ := h) | (obtain ⟨h1, h2, _⟩ := h) | (obtain ⟨h1, _⟩ := h)) | (apply SL.add; exact rfl; exact rfl; exact rfl; exact rfl; omega) | (apply SL.sub; exact rfl; exact rfl; exact rfl; exact rfl; omega) | (apply SL.mul; exact rfl; exact rfl; exact rfl; exact rfl; omega) | (apply SL.quo; exact rfl; exact rfl; exact rfl; exact rfl; omega) | (apply SL.rem; exact rfl; exact rfl; exact rfl; exact rfl; omega) | (apply SL.loadA tOk; exact rfl; exact rfl; exact rfl; exact rfl; exact rfl; (first | assumption | (focus (apply Cells.ext; rotate_left; assumption; (exact extA); done))); exact rfl) | (apply SL.guardF; exact rfl; exact rfl) | (apply SL.gD; exact rfl; exact rfl; all_goals intro _) | (apply SL.gN; exact rfl; exact rfl; all_goals intro _) | (apply SL.gB; exact rfl; exact rfl; all_goals intro _))
      | (show Z _ _ _ _ _; first | apply Z.tail | apply Z.then_normal | apply Z.block_normal | apply Z.then_exit | apply Z.block_exit | apply Z.then_ret | apply Z.block_ret | (apply Z.block_other; exact rfl))
      | (show W _ _ _ _ _ _; first | apply W.seq | apply W.region | apply W.block | apply W.skip | apply W.ret | apply W.exit | (apply W.condT; exact rfl) | (apply W.condF; exact rfl) | (apply W.condD; exact rfl; all_goals intro _) | (apply W.condN; exact rfl; all_goals intro _) | (apply W.condB; exact rfl; all_goals intro _)))
    exact Z.body1 Try.results50 rfl fun m => ⟨Ext.at (by (exact extA)) m, a9, c9, rfl, (hO9.base (Below.size (by (exact extA)))).ext (Ext.at (by (exact extA)) m)⟩
section
variable {B gt n : Nat} {w : World} {av am al ae : Option Addr} {cv cm cl ce : Nat} {M Lr : List T3} {L E : List Int} {rest : List Piece}
abbrev leftV (r : Int × Bool × Bool) : Value := .tuple #[.int .i64 r.1, .bool r.2.1, .bool r.2.2]
set_option maxHeartbeats 4000000 in
theorem imply_left (hS : Lt.Sep B w (trP B gt n av cv (vOf n Lr) am cm M al cl L ae ce E ++ rest)) (hT : TOk n Lr) (hn : n ≤ 1048576) (rc : Option Addr) (cc : Nat) (c : List Int) (Rc : Row 1 encI w rc c) :
    Still Try.prog 122 [.pointer (some ⟨gt, 0, none⟩), .slice rc c.length cc] w (leftV (leftF (valT n Lr) 0 false c)) := by
  have hlen := Rc.len
  refine Spec.of _ Try.func122 rfl Try.ntmps122 (by kernel_rfl) rfl ?_
  repeat' (first
    | (show WL _ _ _ _ _ _ _; first | apply WL.nil | (apply WL.pev tOk; exact rfl; exact rfl; exact rfl) | (apply WL.load tOk; exact rfl; exact rfl; exact rfl; exact rfl; exact rfl; (first | assumption | (focus (apply Ext.cell; rotate_left; assumption; (exact extA); done)))) | (apply WL.index tOk; exact rfl; exact rfl; exact rfl; exact rfl; exact rfl; exact rfl; exact rfl; exact rfl; assumption; (exact extA); exact rfl; omega; assumption; intro b off h; have hcc := h; first | (obtain ⟨h1, h2, h3, h4, h5, h6, _⟩ := h) | (obtain ⟨h1, h2, h3, _⟩ := h) | (obtain ⟨h1, h2, _⟩ := h) | (obtain ⟨h1, _⟩ := h)) | (apply WL.add; exact rfl; exact rfl; exact rfl; exact rfl; omega) | (apply WL.sub; exact rfl; exact rfl; exact rfl; exact rfl; omega) | (apply WL.mul; exact rfl; exact rfl; exact rfl; exact rfl; omega) | (apply WL.quo; exact rfl; exact rfl; exact rfl; exact rfl; omega) | (apply WL.rem; exact rfl; exact rfl; exact rfl; exact rfl; omega) | (apply WL.loadA tOk; exact rfl; exact rfl; exact rfl; exact rfl; exact rfl; (first | assumption | (focus (apply Cells.ext; rotate_left; assumption; (exact extA); done))); exact rfl) | (apply WL.guardF; exact rfl; exact rfl) | (apply WL.gD; exact rfl; exact rfl; all_goals intro _) | (apply WL.gN; exact rfl; exact rfl; all_goals intro _) | (apply WL.gB; exact rfl; exact rfl; all_goals intro _))
    | (show Z _ _ _ _ _; first | apply Z.tail | apply Z.then_normal | apply Z.block_normal | apply Z.then_exit | apply Z.block_exit | apply Z.then_ret | apply Z.block_ret | (apply Z.block_other; exact rfl))
    | (show W _ _ _ _ _ _; first | apply W.seq | apply W.region | apply W.block | apply W.skip | apply W.ret | apply W.exit | (apply W.condT; exact rfl) | (apply W.condF; exact rfl) | (apply W.condD; exact rfl; all_goals intro _) | (apply W.condN; exact rfl; all_goals intro _) | (apply W.condB; exact rfl; all_goals intro _)))
  refine W.loop (fun s : Nat × Int × Bool => s.1 ≤ c.length ∧ leftF (valT n Lr) s.2.1 s.2.2 (c.drop s.1) = leftF (valT n Lr) 0 false c) (fun s => [(0, .pointer (some ⟨gt, 0, none⟩)), (10, .slice rc c.length cc), (11, .int .i64 c.length), (12, .int .i64 s.1), (4, .int .i64 s.2.1), (5, .bool s.2.2), (6, .bool false)]) (fun _ => w) (fun s => c.length - s.1) (0, 0, false) ⟨Nat.zero_le _, rfl⟩ ⟨rfl, rfl, rfl, rfl, rfl, rfl, rfl, trivial⟩ rfl ?_
  rintro ⟨k, l, u⟩ ⟨hk, he⟩
  dsimp only at hk he
  by_cases hlt : k < c.length
  · obtain ⟨x, hx⟩ := getI c hlt
    rw [drop_cons hx, leftF] at he
    by_cases q1 : valT n Lr x = 1
    · rw [if_pos (.inl q1)] at he
      rw [← he]
      repeat' (first
        | ((show WL _ _ _ (⟨_, .call ⟨.value (.func 58), _, _⟩, _, _, _, _⟩ :: _) _ _ _); apply WL.callS; exact rfl; exact rfl; exact rfl; exact rfl; exact trail_Value hS hT hn x)
        | (apply WL.gT; exact rfl; exact rfl; (focus (first | exact dec_true (by omega) | exact dec_true q1; done)))
        | (apply WL.gF; exact rfl; exact rfl; (focus (first | exact dec_true (by omega) | exact dec_true q1; done)))
        | (apply W.condKT; exact rfl; (focus (first | exact dec_true (by omega) | exact dec_true q1; done)))
        | (apply W.condKF; exact rfl; (focus (first | exact dec_true (by omega) | exact dec_true q1; done)))
        | (show WL _ _ _ _ _ _ _; first | apply WL.nil | (apply WL.pev tOk; exact rfl; exact rfl; exact rfl) | (apply WL.load tOk; exact rfl; exact rfl; exact rfl; exact rfl; exact rfl; (first | assumption | (focus (apply Ext.cell; rotate_left; assumption; (exact extA); done)))) | (apply WL.index tOk; exact rfl; exact rfl; exact rfl; exact rfl; exact rfl; exact rfl; exact rfl; exact rfl; assumption; (exact extA); exact rfl; omega; assumption; intro b off h; have hcc := h; first | (obtain ⟨h1, h2, h3, h4, h5, h6, _⟩ := h) | (obtain ⟨h1, h2, h3, _⟩ := h) | (obtain ⟨h1, h2, _⟩ := h) | (obtain ⟨h1, _⟩ := h)) | (apply WL.add; exact rfl; exact rfl; exact rfl; exact rfl; omega) | (apply WL.sub; exact rfl; exact rfl; exact rfl; exact rfl; omega) | (apply WL.mul; exact rfl; exact rfl; exact rfl; exact rfl; omega) | (apply WL.quo; exact rfl; exact rfl; exact rfl; exact rfl; omega) | (apply WL.rem; exact rfl; exact rfl; exact rfl; exact rfl; omega) | (apply WL.loadA tOk; exact rfl; exact rfl; exact rfl; exact rfl; exact rfl; (first | assumption | (focus (apply Cells.ext; rotate_left; assumption; (exact extA); done))); exact rfl) | (apply WL.guardF; exact rfl; exact rfl) | (apply WL.gD; exact rfl; exact rfl; all_goals intro _) | (apply WL.gN; exact rfl; exact rfl; all_goals intro _) | (apply WL.gB; exact rfl; exact rfl; all_goals intro _))
        | (show Z _ _ _ _ _; first | apply Z.tail | apply Z.then_normal | apply Z.block_normal | apply Z.then_exit | apply Z.block_exit | apply Z.then_ret | apply Z.block_ret | (apply Z.block_other; exact rfl))
        | (show W _ _ _ _ _ _; first | apply W.seq | apply W.region | apply W.block | apply W.skip | apply W.ret | apply W.exit | (apply W.condT; exact rfl) | (apply W.condF; exact rfl) | (apply W.condD; exact rfl; all_goals intro _) | (apply W.condN; exact rfl; all_goals intro _) | (apply W.condB; exact rfl; all_goals intro _)))
      exact Z.body3 Try.results122 rfl rfl rfl fun m => ⟨rfl, m, rfl⟩
    · by_cases q2 : valT n Lr x = 2
      · cases u
        · rw [if_neg (fun h => h.elim q1 (fun h => absurd h.2.1 (by decide))), if_pos q2] at he
          repeat' (first
            | ((show WL _ _ _ (⟨_, .call ⟨.value (.func 58), _, _⟩, _, _, _, _⟩ :: _) _ _ _); apply WL.callS; exact rfl; exact rfl; exact rfl; exact rfl; exact trail_Value hS hT hn x)
            | (apply WL.gT; exact rfl; exact rfl; (focus (first | exact dec_true (by omega) | exact dec_true q2 | exact dec_false q1; done)))
            | (apply WL.gF; exact rfl; exact rfl; (focus (first | exact dec_true (by omega) | exact dec_true q2 | exact dec_false q1; done)))
            | (apply W.condKT; exact rfl; (focus (first | exact dec_true (by omega) | exact dec_true q2 | exact dec_false q1; done)))
            | (apply W.condKF; exact rfl; (focus (first | exact dec_true (by omega) | exact dec_true q2 | exact dec_false q1; done)))
            | (show WL _ _ _ _ _ _ _; first | apply WL.nil | (apply WL.pev tOk; exact rfl; exact rfl; exact rfl) | (apply WL.load tOk; exact rfl; exact rfl; exact rfl; exact rfl; exact rfl; (first | assumption | (focus (apply Ext.cell; rotate_left; assumption; (exact extA); done)))) | (apply WL.index tOk; exact rfl; exact rfl; exact rfl; exact rfl; exact rfl; exact rfl; exact rfl; exact rfl; assumption; (exact extA); exact rfl; omega; assumption; intro b off h; have hcc := h; first | (obtain ⟨h1, h2, h3, h4, h5, h6, _⟩ := h) | (obtain ⟨h1, h2, h3, _⟩ := h) | (obtain ⟨h1, h2, _⟩ := h) | (obtain ⟨h1, _⟩ := h)) | (apply WL.add; exact rfl; exact rfl; exact rfl; exact rfl; omega) | (apply WL.sub; exact rfl; exact rfl; exact rfl; exact rfl; omega) | (apply WL.mul; exact rfl; exact rfl; exact rfl; exact rfl; omega) | (apply WL.quo; exact rfl; exact rfl; exact rfl; exact rfl; omega) | (apply WL.rem; exact rfl; exact rfl; exact rfl; exact rfl; omega) | (apply WL.loadA tOk; exact rfl; exact rfl; exact rfl; exact rfl; exact rfl; (first | assumption | (focus (apply Cells.ext; rotate_left; assumption; (exact extA); done))); exact rfl) | (apply WL.guardF; exact rfl; exact rfl) | (apply WL.gD; exact rfl; exact rfl; all_goals intro _) | (apply WL.gN; exact rfl; exact rfl; all_goals intro _) | (apply WL.gB; exact rfl; exact rfl; all_goals intro _))
            | (show Z _ _ _ _ _; first | apply Z.tail | apply Z.then_normal | apply Z.block_normal | apply Z.then_exit | apply Z.block_exit | apply Z.then_ret | apply Z.block_ret | (apply Z.block_other; exact rfl))
            | (show W _ _ _ _ _ _; first | apply W.seq | apply W.region | apply W.block | apply W.skip | apply W.ret | apply W.exit | (apply W.condT; exact rfl) | (apply W.condF; exact rfl) | (apply W.condD; exact rfl; all_goals intro _) | (apply W.condN; exact rfl; all_goals intro _) | (apply W.condB; exact rfl; all_goals intro _)))
          exact Z.again (k + 1, x, true) ⟨by show k + 1 ≤ _; omega, he⟩ (by show c.length - (k + 1) < c.length - k; omega) ⟨rfl, rfl, rfl, rfl, rfl, rfl, rfl, trivial⟩ rfl
        · by_cases q3 : x = l
          · rw [if_neg (fun h => h.elim q1 (fun h => h.2.2 q3)), if_pos q2] at he
            repeat' (first
              | ((show WL _ _ _ (⟨_, .call ⟨.value (.func 58), _, _⟩, _, _, _, _⟩ :: _) _ _ _); apply WL.callS; exact rfl; exact rfl; exact rfl; exact rfl; exact trail_Value hS hT hn x)
              | (apply WL.gT; exact rfl; exact rfl; (focus (first | exact dec_true (by omega) | exact dec_true q2 | exact dec_false q1 | exact dec_false (fun h => h q3); done)))
              | (apply WL.gF; exact rfl; exact rfl; (focus (first | exact dec_true (by omega) | exact dec_true q2 | exact dec_false q1 | exact dec_false (fun h => h q3); done)))
              | (apply W.condKT; exact rfl; (focus (first | exact dec_true (by omega) | exact dec_true q2 | exact dec_false q1 | exact dec_false (fun h => h q3); done)))
              | (apply W.condKF; exact rfl; (focus (first | exact dec_true (by omega) | exact dec_true q2 | exact dec_false q1 | exact dec_false (fun h => h q3); done)))
              | (show WL _ _ _ _ _ _ _; first | apply WL.nil | (apply WL.pev tOk; exact rfl; exact rfl; exact rfl) | (apply WL.load tOk; exact rfl; exact rfl; exact rfl; exact rfl; exact rfl; (first | assumption | (focus (apply Ext.cell; rotate_left; assumption; (exact extA); done)))) | (apply WL.index tOk; exact rfl; exact rfl; exact rfl; exact rfl; exact rfl; exact rfl; exact rfl; exact rfl; assumption; (exact extA); exact rfl; omega; assumption; intro b off h; have hcc := h; first | (obtain ⟨h1, h2, h3, h4, h5, h6, _⟩ := h) | (obtain ⟨h1, h2, h3, _⟩ := h) | (obtain ⟨h1, h2, _⟩ := h) | (obtain ⟨h1, _⟩ := h)) | (apply WL.add; exact rfl; exact rfl; exact rfl; exact rfl; omega) | (apply WL.sub; exact rfl; exact rfl; exact rfl; exact rfl; omega) | (apply WL.mul; exact rfl; exact rfl; exact rfl; exact rfl; omega) | (apply WL.quo; exact rfl; exact rfl; exact rfl; exact rfl; omega) | (apply WL.rem; exact rfl; exact rfl; exact rfl; exact rfl; omega) | (apply WL.loadA tOk; exact rfl; exact rfl; exact rfl; exact rfl; exact rfl; (first | assumption | (focus (apply Cells.ext; rotate_left; assumption; (exact extA); done))); exact rfl) | (apply WL.guardF; exact rfl; exact rfl) | (apply WL.gD; exact rfl; exact rfl; all_goals intro _) | (apply WL.gN; exact rfl; exact rfl; all_goals intro _) | (apply WL.gB; exact rfl; exact rfl; all_goals intro _))
              | (show Z _ _ _ _ _; first | apply Z.tail | apply Z.then_normal | apply Z.block_normal | apply Z.then_exit | apply Z.block_exit | apply Z.then_ret | apply Z.block_ret | (apply Z.block_other; exact rfl))
              | (show W _ _ _ _ _ _; first | apply W.seq | apply W.region | apply W.block | apply W.skip | apply W.ret | apply W.exit | (apply W.condT; exact rfl) | (apply W.condF; exact rfl) | (apply W.condD; exact rfl; all_goals intro _) | (apply W.condN; exact rfl; all_goals intro _) | (apply W.condB; exact rfl; all_goals intro _)))
            exact Z.again (k + 1, x, true) ⟨by show k + 1 ≤ _; omega, he⟩ (by show c.length - (k + 1) < c.length - k; omega) ⟨rfl, rfl, rfl, rfl, rfl, rfl, rfl, trivial⟩ rfl
          · rw [if_pos (.inr ⟨q2, rfl, q3⟩)] at he
            rw [← he]
            repeat' (first
              | ((show WL _ _ _ (⟨_, .call ⟨.value (.func 58), _, _⟩, _, _, _, _⟩ :: _) _ _ _); apply WL.callS; exact rfl; exact rfl; exact rfl; exact rfl; exact trail_Value hS hT hn x)
              | (apply WL.gT; exact rfl; exact rfl; (focus (first | exact dec_true (by omega) | exact dec_true q2 | exact dec_false q1 | exact dec_true q3; done)))
              | (apply WL.gF; exact rfl; exact rfl; (focus (first | exact dec_true (by omega) | exact dec_true q2 | exact dec_false q1 | exact dec_true q3; done)))
              | (apply W.condKT; exact rfl; (focus (first | exact dec_true (by omega) | exact dec_true q2 | exact dec_false q1 | exact dec_true q3; done)))
              | (apply W.condKF; exact rfl; (focus (first | exact dec_true (by omega) | exact dec_true q2 | exact dec_false q1 | exact dec_true q3; done)))
              | (show WL _ _ _ _ _ _ _; first | apply WL.nil | (apply WL.pev tOk; exact rfl; exact rfl; exact rfl) | (apply WL.load tOk; exact rfl; exact rfl; exact rfl; exact rfl; exact rfl; (first | assumption | (focus (apply Ext.cell; rotate_left; assumption; (exact extA); done)))) | (apply WL.index tOk; exact rfl; exact rfl; exact rfl; exact rfl; exact rfl; exact rfl; exact rfl; exact rfl; assumption; (exact extA); exact rfl; omega; assumption; intro b off h; have hcc := h; first | (obtain ⟨h1, h2, h3, h4, h5, h6, _⟩ := h) | (obtain ⟨h1, h2, h3, _⟩ := h) | (obtain ⟨h1, h2, _⟩ := h) | (obtain ⟨h1, _⟩ := h)) | (apply WL.add; exact rfl; exact rfl; exact rfl; exact rfl; omega) | (apply WL.sub; exact rfl; exact rfl; exact rfl; exact rfl; omega) | (apply WL.mul; exact rfl; exact rfl; exact rfl; exact rfl; omega) | (apply WL.quo; exact rfl; exact rfl; exact rfl; exact rfl; omega) | (apply WL.rem; exact rfl; exact rfl; exact rfl; exact rfl; omega) | (apply WL.loadA tOk; exact rfl; exact rfl; exact rfl; exact rfl; exact rfl; (first | assumption | (focus (apply Cells.ext; rotate_left; assumption; (exact extA); done))); exact rfl) | (apply WL.guardF; exact rfl; exact rfl) | (apply WL.gD; exact rfl; exact rfl; all_goals intro _) | (apply WL.gN; exact rfl; exact rfl; all_goals intro _) | (apply WL.gB; exact rfl; exact rfl; all_goals intro _))
              | (show Z _ _ _ _ _; first | apply Z.tail | apply Z.then_normal | apply Z.block_normal | apply Z.then_exit | apply Z.block_exit | apply Z.then_ret | apply Z.block_ret | (apply Z.block_other; exact rfl))
              | (show W _ _ _ _ _ _; first | apply W.seq | apply W.region | apply W.block | apply W.skip | apply W.ret | apply W.exit | (apply W.condT; exact rfl) | (apply W.condF; exact rfl) | (apply W.condD; exact rfl; all_goals intro _) | (apply W.condN; exact rfl; all_goals intro _) | (apply W.condB; exact rfl; all_goals intro _)))
            exact Z.body3 Try.results122 rfl rfl rfl fun m => ⟨rfl, m, rfl⟩
      · rw [if_neg (fun h => h.elim q1 (fun h => q2 h.1)), if_neg q2] at he
        repeat' (first
          | ((show WL _ _ _ (⟨_, .call ⟨.value (.func 58), _, _⟩, _, _, _, _⟩ :: _) _ _ _); apply WL.callS; exact rfl; exact rfl; exact rfl; exact rfl; exact trail_Value hS hT hn x)
          | (apply WL.gT; exact rfl; exact rfl; (focus (first | exact dec_true (by omega) | exact dec_false q2 | exact dec_false q1; done)))
          | (apply WL.gF; exact rfl; exact rfl; (focus (first | exact dec_true (by omega) | exact dec_false q2 | exact dec_false q1; done)))
          | (apply W.condKT; exact rfl; (focus (first | exact dec_true (by omega) | exact dec_false q2 | exact dec_false q1; done)))
          | (apply W.condKF; exact rfl; (focus (first | exact dec_true (by omega) | exact dec_false q2 | exact dec_false q1; done)))
          | (show WL _ _ _ _ _ _ _; first | apply WL.nil | (apply WL.pev tOk; exact rfl; exact rfl; exact rfl) | (apply WL.load tOk; exact rfl; exact rfl; exact rfl; exact rfl; exact rfl; (first | assumption | (focus (apply Ext.cell; rotate_left; assumption; (exact extA); done)))) | (apply WL.index tOk; exact rfl; exact rfl; exact rfl; exact rfl; exact rfl; exact rfl; exact rfl; exact rfl; assumption; (exact extA); exact rfl; omega; assumption; intro b off h; have hcc := h; first | (obtain ⟨h1, h2, h3, h4, h5, h6, _⟩ := h) | (obtain ⟨h1, h2, h3, _⟩ := h) | (obtain ⟨h1, h2, _⟩ := h) | (obtain ⟨h1, _⟩ := h)) | (apply WL.add; exact rfl; exact rfl; exact rfl; exact rfl; omega) | (apply WL.sub; exact rfl; exact rfl; exact rfl; exact rfl; omega) | (apply WL.mul; exact rfl; exact rfl; exact rfl; exact rfl; omega) | (apply WL.quo; exact rfl; exact rfl; exact rfl; exact rfl; omega) | (apply WL.rem; exact rfl; exact rfl; exact rfl; exact rfl; omega) | (apply WL.loadA tOk; exact rfl; exact rfl; exact rfl; exact rfl; exact rfl; (first | assumption | (focus (apply Cells.ext; rotate_left; assumption; (exact extA); done))); exact rfl) | (apply WL.guardF; exact rfl; exact rfl) | (apply WL.gD; exact rfl; exact rfl; all_goals intro _) | (apply WL.gN; exact rfl; exact rfl; all_goals intro _) | (apply WL.gB; exact rfl; exact rfl; all_goals intro _))
          | (show Z _ _ _ _ _; first | apply Z.tail | apply Z.then_normal | apply Z.block_normal | apply Z.then_exit | apply Z.block_exit | apply Z.then_ret | apply Z.block_ret | (apply Z.block_other; exact rfl))
          | (show W _ _ _ _ _ _; first | apply W.seq | apply W.region | apply W.block | apply W.skip | apply W.ret | apply W.exit | (apply W.condT; exact rfl) | (apply W.condF; exact rfl) | (apply W.condD; exact rfl; all_goals intro _) | (apply W.condN; exact rfl; all_goals intro _) | (apply W.condB; exact rfl; all_goals intro _)))
        exact Z.again (k + 1, l, u) ⟨by show k + 1 ≤ _; omega, he⟩ (by show c.length - (k + 1) < c.length - k; omega) ⟨rfl, rfl, rfl, rfl, rfl, rfl, rfl, trivial⟩ rfl
  · obtain rfl : k = c.length := by omega
    rw [List.drop_length, leftF] at he
    rw [← he]
    repeat' (first
      | (apply WL.gT; exact rfl; exact rfl; (focus (exact dec_false (by omega); done)))
      | (apply WL.gF; exact rfl; exact rfl; (focus (exact dec_false (by omega); done)))
      | (apply W.condKT; exact rfl; (focus (exact dec_false (by omega); done)))
      | (apply W.condKF; exact rfl; (focus (exact dec_false (by omega); done)))
      | (show WL _ _ _ _ _ _ _; first | apply WL.nil | (apply WL.pev tOk; exact rfl; exact rfl; exact rfl) | (apply WL.load tOk; exact rfl; exact rfl; exact rfl; exact rfl; exact rfl; (first | assumption | (focus (apply Ext.cell; rotate_left; assumption; (exact extA); done)))) | (apply WL.index tOk; exact rfl; exact rfl; exact rfl; exact rfl; exact rfl; exact rfl; exact rfl; exact rfl; assumption; (exact extA); exact rfl; omega; assumption; intro b off h; have hcc := h; first | (obtain ⟨h1, h2, h3, h4, h5, h6, _⟩ := h) | (obtain ⟨h1, h2, h3, _⟩ := h) | (obtain ⟨h1, h2, _⟩ := h) | (obtain ⟨h1, _⟩ := h)) | (apply WL.add; exact rfl; exact rfl; exact rfl; exact rfl; omega) | (apply WL.sub; exact rfl; exact rfl; exact rfl; exact rfl; omega) | (apply WL.mul; exact rfl; exact rfl; exact rfl; exact rfl; omega) | (apply WL.quo; exact rfl; exact rfl; exact rfl; exact rfl; omega) | (apply WL.rem; exact rfl; exact rfl; exact rfl; exact rfl; omega) | (apply WL.loadA tOk; exact rfl; exact rfl; exact rfl; exact rfl; exact rfl; (first | assumption | (focus (apply Cells.ext; rotate_left; assumption; (exact extA); done))); exact rfl) | (apply WL.guardF; exact rfl; exact rfl) | (apply WL.gD; exact rfl; exact rfl; all_goals intro _) | (apply WL.gN; exact rfl; exact rfl; all_goals intro _) | (apply WL.gB; exact rfl; exact rfl; all_goals intro _))
      | (show Z _ _ _ _ _; first | apply Z.tail | apply Z.then_normal | apply Z.block_normal | apply Z.then_exit | apply Z.block_exit | apply Z.then_ret | apply Z.block_ret | (apply Z.block_other; exact rfl))
      | (show W _ _ _ _ _ _; first | apply W.seq | apply W.region | apply W.block | apply W.skip | apply W.ret | apply W.exit | (apply W.condT; exact rfl) | (apply W.condF; exact rfl) | (apply W.condD; exact rfl; all_goals intro _) | (apply W.condN; exact rfl; all_goals intro _) | (apply W.condB; exact rfl; all_goals intro _)))
    exact Z.body3 Try.results122 rfl rfl rfl fun m => ⟨rfl, m, rfl⟩
end
end Go.Proofs.Ytmaekaflpbenmaa
namespace Go.Proofs.Ytmaekaflpbenmaa
open Go Go.Lt Go.RowKit
set_option linter.unusedVariables false
set_option linter.unusedSimpArgs false

/-- A gate's variable, and those of its two inputs. -/
abbrev G3 := Int × Int × Int
/-- It may be told now: it is not told yet, and all on which it hangs are. -/
def Rdy (gs : List G3) (T : List Nat) (i : Nat) : Prop :=
  ∃ g, gs[i]? = some g ∧ i ∉ T ∧ ∀ (j : Nat) (x : G3), gs[j]? = some x → j ∉ T → x.1 / 2 ≠ g.2.1 / 2 ∧ x.1 / 2 ≠ g.2.2 / 2
def Least (gs : List G3) (T : List Nat) (i : Nat) : Prop := Rdy gs T i ∧ ∀ j, Rdy gs T j → i ≤ j
/-- Gates told, the least one that may be first. -/
def PreOrd (gs : List G3) (L : List Nat) : Prop := ∀ (k i : Nat), L[k]? = some i → Least gs (L.take k) i
theorem PreOrd.nil (gs : List G3) : PreOrd gs [] := fun k i h => by simp at h
theorem PreOrd.push {gs : List G3} {L : List Nat} {i : Nat} (h : PreOrd gs L) (hi : Least gs L i) : PreOrd gs (L ++ [i]) := by
  intro k j hj
  by_cases hk : k < L.length
  · rw [List.getElem?_append_left hk] at hj
    rw [List.take_append_of_le_length (by omega)]
    exact h k j hj
  · rw [List.getElem?_append_right (by omega)] at hj
    have : k - L.length = 0 := by have := lt_of_get hj; simpa using this
    obtain rfl : k = L.length := by omega
    simp at hj; subst hj
    rw [List.take_left' rfl]
    exact hi
theorem PreOrd.take {gs : List G3} {L : List Nat} (h : PreOrd gs L) (m : Nat) : PreOrd gs (L.take m) := by
  intro k i hi
  rw [List.getElem?_take] at hi
  split at hi
  · rename_i hk
    rw [List.take_take, Nat.min_eq_left (by omega)]
    exact h k i hi
  · cases hi
theorem PreOrd.lt {gs : List G3} {L : List Nat} (h : PreOrd gs L) : ∀ i ∈ L, i < gs.length := fun i hi => by
  obtain ⟨k, hk, he⟩ := List.getElem_of_mem hi
  obtain ⟨g, hg, _⟩ := (h k i (by rw [List.getElem?_eq_getElem hk, he])).1
  exact lt_of_get hg
theorem PreOrd.nodup {gs : List G3} {L : List Nat} (h : PreOrd gs L) : L.Nodup := by
  rw [List.nodup_iff_pairwise_ne, List.pairwise_iff_getElem]
  intro i j hi hj hij he
  obtain ⟨g, _, hn, _⟩ := (h j L[j] (List.getElem?_eq_getElem hj)).1
  refine hn ?_
  rw [← he]
  exact List.mem_take_iff_getElem.2 ⟨i, by omega, rfl⟩
theorem nodup_le : ∀ (n : Nat) (L : List Nat), L.Nodup → (∀ i ∈ L, i < n) → L.length ≤ n
  | 0, L, _, h => by
    cases L with
    | nil => exact Nat.le_refl _
    | cons x r => exact absurd (h x (by simp)) (Nat.not_lt_zero _)
  | n + 1, L, hd, h => by
    have h1 := nodup_le n (L.erase n) (hd.erase n) fun i hi => by
      have h2 := h i (List.mem_of_mem_erase hi)
      have h3 : i ≠ n := fun he => by subst he; exact (List.Nodup.not_mem_erase hd) hi
      omega
    rw [List.length_erase] at h1
    split at h1 <;> omega
theorem PreOrd.le {gs : List G3} {L : List Nat} (h : PreOrd gs L) : L.length ≤ gs.length := nodup_le _ _ h.nodup h.lt
end Go.Proofs.Ytmaekaflpbenmaa
namespace Go.Proofs.Ytmaekaflpbenmaa
open Go Go.Lt Go.RowKit
set_option linter.unusedVariables false
set_option linter.unusedSimpArgs false

theorem TOk.len_le {n : Nat} {L : List T3} (h : TOk n L) : L.length ≤ n := by
  have h1 := nodup_le (n + 1) (L.map fun x => (x.1 / 2).toNat) ?_ ?_
  · have h2 := nodup_le n (L.map fun x => (x.1 / 2).toNat - 1) ?_ ?_
    · rwa [List.length_map] at h2
    · rw [List.nodup_iff_pairwise_ne, List.pairwise_map]
      refine List.Pairwise.imp_of_mem ?_ h.2
      intro a b ha hb hne
      have := h.1 a ha; have := h.1 b hb; omega
    · intro i hi
      obtain ⟨x, hx, rfl⟩ := List.mem_map.1 hi
      have := h.1 x hx; omega
  · rw [List.nodup_iff_pairwise_ne, List.pairwise_map]
    refine List.Pairwise.imp_of_mem ?_ h.2
    intro a b ha hb hne
    have := h.1 a ha; have := h.1 b hb; omega
  · intro i hi
    obtain ⟨x, hx, rfl⟩ := List.mem_map.1 hi
    have := h.1 x hx; omega
/-- What a gate's clauses let be so. -/
structure GStep (n : List (Int × Int)) (k : Nat) (x : Int × Int) (Lr D : List T3) : Prop where
  tok : TOk n.length (Lr ++ D)
  rch : Rch (GC n) (vOf n.length Lr) (vOf n.length (Lr ++ D))
  rea : ∀ s, Rea n s Lr → Rea n s (Lr ++ D)
  vars : ∀ y ∈ D, gVar k x (y.1 / 2)
theorem GStep.start {n : List (Int × Int)} {k : Nat} {x : Int × Int} {Lr : List T3} (hT : TOk n.length Lr) : GStep n k x Lr [] := by
  refine ⟨by rwa [List.append_nil], by rw [List.append_nil]; exact .base, fun s h => by rw [List.append_nil]; exact h, fun y h => by cases h⟩
theorem unit_valT {n : Nat} {L : List T3} (hT : TOk n L) (hn : n ≤ 1048576) {c : List Int} (h0 : 0 ≤ uC (vOf n L) (-1) c) : 1 < uC (vOf n L) (-1) c ∧ valT n L (uC (vOf n L) (-1) c) = 2 := by
  have h1 := (uC_mem (vals := vOf n L) c (-1)).resolve_left (fun h => by omega) |>.resolve_left (fun h' => by rw [h'] at h0; omega)
  have h2 := h1.2
  rw [lit3_vOf hT hn] at h2
  refine ⟨?_, h2⟩
  rcases Int.lt_or_le 1 (uC (vOf n L) (-1) c) with h3 | h3
  · exact h3
  · exfalso
    have : valT n L (uC (vOf n L) (-1) c) = uC (vOf n L) (-1) c := by generalize uC (vOf n L) (-1) c = z at *; unfold valT; rw [if_pos (by omega)]
    omega
theorem GStep.push {n : List (Int × Int)} (hg : GoodNet n) (hn : n.length ≤ 1048576) {k j : Nat} {x : Int × Int} {Lr D : List T3} {lev : Int} (h : GStep n k x Lr D) (hx : n[k]? = some x) (h0 : 0 ≤ x.1) (hj : j < 3) (hu : 0 ≤ uC (vOf n.length (Lr ++ D)) (-1) (clL ((k : Int) + 1) j x)) :
    setT n.length (Lr ++ D) (uC (vOf n.length (Lr ++ D)) (-1) (clL ((k : Int) + 1) j x)) lev (3 * ((k : Int) + 1) + j) = Lr ++ (D ++ [(uC (vOf n.length (Lr ++ D)) (-1) (clL ((k : Int) + 1) j x), lev, 3 * ((k : Int) + 1) + j)]) ∧
    GStep n k x Lr (D ++ [(uC (vOf n.length (Lr ++ D)) (-1) (clL ((k : Int) + 1) j x), lev, 3 * ((k : Int) + 1) + j)]) := by
  have hgc : GC n (clL ((k : Int) + 1) j x) := ⟨k, j, x, hx, hj, h0, rfl⟩
  have hkn := hgc.lits hg
  have hv := unit_valT h.tok hn hu
  have hunit := uC_unit hv.1
  have hl := hkn _ hunit.2.1
  have hgx := hg.gate hx h0
  have hset : setE n.length (Lr ++ D) (uC (vOf n.length (Lr ++ D)) (-1) (clL ((k : Int) + 1) j x)) = 0 := setE_zero (by omega) (by omega) (by omega)
  have hp := setE_pos hset
  have hpl := plc_of_free h.tok ⟨hp.1, hp.2.1⟩ hp.2.2
  refine ⟨by unfold setT; rw [if_pos hset, List.append_assoc], ?_, ?_, fun s hs => ?_, fun y hy => ?_⟩
  · rw [← List.append_assoc]; exact tok_push h.tok ⟨hp.1, hp.2.1⟩ hpl
  · rw [← List.append_assoc, ← vOf_setV h.tok ⟨hp.1, hp.2.1⟩ hpl]
    exact .step h.rch hgc hv.1
  · rw [← List.append_assoc]
    refine (h.rea s hs).push ⟨k, j, x, hx, h0, hj, rfl, hunit.2.1, fun z hz hne => ?_⟩
    have h1 := hunit.1 z hz
    rw [lit3_vOf h.tok hn] at h1
    have h2 := valT_range n.length (Lr ++ D) z
    have h3 : valT n.length (Lr ++ D) z ≠ 2 := fun hh => hne (h1.2 hh)
    omega
  · rcases List.mem_append.1 hy with hy | hy
    · exact h.vars y hy
    · rw [List.mem_singleton.1 hy]; exact clL_var h0 hgx.2.1 hunit.2.1
/-- What a gate's clauses answer. -/
def GateR (n : List (Int × Int)) (k : Nat) (x : Int × Int) (Lr D : List T3) (r : Int) : Prop :=
  (r = -1 ∧ (D = [] → ∀ j, j < 3 → goodC (vOf n.length Lr) (clL ((k : Int) + 1) j x))) ∨ (∃ j : Nat, j < 3 ∧ r = 3 * ((k : Int) + 1) + j ∧ vC (vOf n.length (Lr ++ D)) 0 (clL ((k : Int) + 1) j x) = 0)
abbrev KeepsT (w0 : World) (gt : Nat) (n : List (Int × Int)) (E : List Int) (rest : List Piece) (p : World → Prop) : Prop := ∀ w' Lr', Ext w0 w' → TrAt w0.heap.size w' gt n.length Lr' E rest → p w'
set_option maxHeartbeats 8000000 in
theorem imply_gate (b gr gt : Nat) (n : List (Int × Int)) (Lr : List T3) (E : List Int) (rest : List Piece) (w w0 : World) (hX : Ext w0 w) (hA : TrAt w0.heap.size w gt n.length Lr E rest) (hT : TOk n.length Lr) (HR : KeepsT w0 gt n E rest (fun w' => RulesAt b w' gr n))
    (hg : GoodNet n) (hn : n.length ≤ 1048576) (k : Nat) (x : Int × Int) (hx : n[k]? = some x) (h0 : 0 ≤ x.1) :
    Lt.Spec Try.prog 95 [.pointer (some ⟨gr, 0, none⟩), .pointer (some ⟨gt, 0, none⟩), .int .i64 ((k : Int) + 1)] w (fun v w' => Ext w0 w' ∧ ∃ D r, v = .int .i64 r ∧ TrAt w0.heap.size w' gt n.length (Lr ++ D) E rest ∧ GStep n k x Lr D ∧ GateR n k x Lr D r) := by
  have hk := lt_of_get hx
  refine Spec.of _ Try.func95 rfl Try.ntmps95 (by kernel_rfl) rfl ?_
  repeat' (first
    | (show WL _ _ _ _ _ _ _; first | apply WL.nil | (apply WL.pev tOk; exact rfl; exact rfl; exact rfl) | (apply WL.load tOk; exact rfl; exact rfl; exact rfl; exact rfl; exact rfl; (first | assumption | (focus (apply Ext.cell; rotate_left; assumption; (exact extA); done)))) | (apply WL.index tOk; exact rfl; exact rfl; exact rfl; exact rfl; exact rfl; exact rfl; exact rfl; exact rfl; assumption; (exact extA); exact rfl; omega; assumption; intro b off h; have hcc := h; first | (obtain ⟨h1, h2, h3, h4, h5, h6, _⟩ := h) | (obtain ⟨h1, h2, h3, _⟩ := h) | (obtain ⟨h1, h2, _⟩ := h) | (obtain ⟨h1, _⟩ := h)) | (apply WL.add; exact rfl; exact rfl; exact rfl; exact rfl; omega) | (apply WL.sub; exact rfl; exact rfl; exact rfl; exact rfl; omega) | (apply WL.mul; exact rfl; exact rfl; exact rfl; exact rfl; omega) | (apply WL.quo; exact rfl; exact rfl; exact rfl; exact rfl; omega) | (apply WL.rem; exact rfl; exact rfl; exact rfl; exact rfl; omega) | (apply WL.loadA tOk; exact rfl; exact rfl; exact rfl; exact rfl; exact rfl; (first | assumption | (focus (apply Cells.ext; rotate_left; assumption; (exact extA); done))); exact rfl) | (apply WL.guardF; exact rfl; exact rfl) | (apply WL.gD; exact rfl; exact rfl; all_goals intro _) | (apply WL.gN; exact rfl; exact rfl; all_goals intro _) | (apply WL.gB; exact rfl; exact rfl; all_goals intro _))
    | (show Z _ _ _ _ _; first | apply Z.tail | apply Z.then_normal | apply Z.block_normal | apply Z.then_exit | apply Z.block_exit | apply Z.then_ret | apply Z.block_ret | (apply Z.block_other; exact rfl))
    | (show W _ _ _ _ _ _; first | apply W.seq | apply W.region | apply W.block | apply W.skip | apply W.ret | apply W.exit | (apply W.condT; exact rfl) | (apply W.condF; exact rfl) | (apply W.condD; exact rfl; all_goals intro _) | (apply W.condN; exact rfl; all_goals intro _) | (apply W.condB; exact rfl; all_goals intro _)))
  refine W.loop (fun s : Nat × List T3 × World => s.1 ≤ 3 ∧ Ext w0 s.2.2 ∧ TrAt w0.heap.size s.2.2 gt n.length (Lr ++ s.2.1) E rest ∧ GStep n k x Lr s.2.1 ∧ (s.2.1 = [] → ∀ j, j < s.1 → goodC (vOf n.length Lr) (clL ((k : Int) + 1) j x))) (fun s => [(0, .pointer (some ⟨gr, 0, none⟩)), (1, .pointer (some ⟨gt, 0, none⟩)), (2, .int .i64 ((k : Int) + 1)), (11, .int .i64 s.1)]) (fun s => s.2.2) (fun s => 3 - s.1) (0, [], w) ⟨Nat.zero_le _, hX, by rw [List.append_nil]; exact hA, GStep.start hT, fun _ j hj => absurd hj (Nat.not_lt_zero _)⟩ ⟨rfl, rfl, rfl, rfl, trivial⟩ rfl ?_
  rintro ⟨j, D, w1⟩ ⟨hj, hX1, hA1, hG, hgood⟩
  dsimp only at hj hX1 hA1 hG hgood
  by_cases hlt : j < 3
  · have hgc : GC n (clL ((k : Int) + 1) j x) := ⟨k, j, x, hx, hlt, h0, rfl⟩
    have hkn := hgc.lits hg
    have hcl := imply_Clause b gr n (3 * ((k : Int) + 1) + j) w1 (HR w1 _ hX1 hA1) hg hn (by omega)
    rw [clW_at hx hlt rfl] at hcl
    have hlv : ∀ y, valT n.length (Lr ++ D) y = lit3 (vOf n.length (Lr ++ D)) y := fun y => (lit3_vOf hG.tok hn y).symm
    have hLen := hG.tok.len_le
    obtain ⟨av, cv, am, cm, M, al, cl, ae, ce, hM, hS⟩ := hA1
    have hleft := fun (w2 : World) (hx2 : Ext w1 w2) (rc : Option Addr) (cc : Nat) (Rc : Row 1 encI w2 rc (clL ((k : Int) + 1) j x)) => imply_left (hS.ext hx2) hG.tok hn rc cc (clL ((k : Int) + 1) j x) Rc
    rcases leftF_ok (V := valT n.length (Lr ++ D)) hlv (clL ((k : Int) + 1) j x) (fun y hy => by have := hkn y hy; exact ⟨this.1, by omega⟩) with ⟨h1, h2, h3⟩ | ⟨h1, h2⟩ | ⟨h1, h2⟩
    · rw [h1] at hleft
      obtain ⟨e1, hG2⟩ := hG.push hg hn (lev := (E.length : Int)) hx h0 hlt h2
      have hu := (uC_unit (unit_valT hG.tok hn h2).1).2.1
      have hub := hkn _ hu
      repeat' (first
        | (apply WL.gT; exact rfl; exact rfl; (focus (exact dec_true (by omega); done)))
        | (apply WL.gF; exact rfl; exact rfl; (focus (exact dec_true (by omega); done)))
        | (apply W.condKT; exact rfl; (focus (exact dec_true (by omega); done)))
        | (apply W.condKF; exact rfl; (focus (exact dec_true (by omega); done)))
        | (apply WL.call; exact rfl; exact rfl; exact rfl; exact rfl; exact hcl; rintro v' w' ⟨hx, a', cap', rfl, hO⟩)
        | (apply WL.callS; exact rfl; exact rfl; exact rfl; exact rfl; exact hleft _ (by (exact extA)) _ _ (Own.row encI_ok hO))
        | (((show WL _ _ _ (⟨_, .call ⟨.value (.func 52), _, _⟩, _, _, _, _⟩ :: _) _ _ _); apply WL.call; exact rfl; exact rfl; exact rfl; exact rfl; exact trail_Set (by (exact extA)) (hS.ext (by (exact extA))) hG.tok hM (by omega) (by omega) _ _ (by omega); rintro v' w3 ⟨hX3, rfl, hA3⟩))
        | (show WL _ _ _ _ _ _ _; first | apply WL.nil | (apply WL.pev tOk; exact rfl; exact rfl; exact rfl) | (apply WL.load tOk; exact rfl; exact rfl; exact rfl; exact rfl; exact rfl; (first | assumption | (focus (apply Ext.cell; rotate_left; assumption; (exact extA); done)))) | (apply WL.index tOk; exact rfl; exact rfl; exact rfl; exact rfl; exact rfl; exact rfl; exact rfl; exact rfl; assumption; (exact extA); exact rfl; omega; assumption; intro b off h; have hcc := h; first | (obtain ⟨h1, h2, h3, h4, h5, h6, _⟩ := h) | (obtain ⟨h1, h2, h3, _⟩ := h) | (obtain ⟨h1, h2, _⟩ := h) | (obtain ⟨h1, _⟩ := h)) | (apply WL.add; exact rfl; exact rfl; exact rfl; exact rfl; omega) | (apply WL.sub; exact rfl; exact rfl; exact rfl; exact rfl; omega) | (apply WL.mul; exact rfl; exact rfl; exact rfl; exact rfl; omega) | (apply WL.quo; exact rfl; exact rfl; exact rfl; exact rfl; omega) | (apply WL.rem; exact rfl; exact rfl; exact rfl; exact rfl; omega) | (apply WL.loadA tOk; exact rfl; exact rfl; exact rfl; exact rfl; exact rfl; (first | assumption | (focus (apply Cells.ext; rotate_left; assumption; (exact extA); done))); exact rfl) | (apply WL.guardF; exact rfl; exact rfl) | (apply WL.gD; exact rfl; exact rfl; all_goals intro _) | (apply WL.gN; exact rfl; exact rfl; all_goals intro _) | (apply WL.gB; exact rfl; exact rfl; all_goals intro _))
        | (show Z _ _ _ _ _; first | apply Z.tail | apply Z.then_normal | apply Z.block_normal | apply Z.then_exit | apply Z.block_exit | apply Z.then_ret | apply Z.block_ret | (apply Z.block_other; exact rfl))
        | (show W _ _ _ _ _ _; first | apply W.seq | apply W.region | apply W.block | apply W.skip | apply W.ret | apply W.exit | (apply W.condT; exact rfl) | (apply W.condF; exact rfl) | (apply W.condD; exact rfl; all_goals intro _) | (apply W.condN; exact rfl; all_goals intro _) | (apply W.condB; exact rfl; all_goals intro _)))
      rw [show setT n.length (Lr ++ D) _ (E.length : Int) _ = _ from e1] at hA3
      exact Z.again (j + 1, D ++ [(uC (vOf n.length (Lr ++ D)) (-1) (clL ((k : Int) + 1) j x), (E.length : Int), 3 * ((k : Int) + 1) + j)], w3) ⟨by show j + 1 ≤ _; omega, hX3, hA3, hG2, fun h => absurd h (by simp)⟩ (by show 3 - (j + 1) < 3 - j; omega) ⟨rfl, rfl, rfl, rfl, trivial⟩ rfl
    · rw [h1] at hleft
      repeat' (first
        | (apply WL.gT; exact rfl; exact rfl; (focus (exact dec_true (by omega); done)))
        | (apply WL.gF; exact rfl; exact rfl; (focus (exact dec_true (by omega); done)))
        | (apply W.condKT; exact rfl; (focus (exact dec_true (by omega); done)))
        | (apply W.condKF; exact rfl; (focus (exact dec_true (by omega); done)))
        | (apply WL.call; exact rfl; exact rfl; exact rfl; exact rfl; exact hcl; rintro v' w' ⟨hx, a', cap', rfl, hO⟩)
        | (apply WL.callS; exact rfl; exact rfl; exact rfl; exact rfl; exact hleft _ (by (exact extA)) _ _ (Own.row encI_ok hO))
        | (show WL _ _ _ _ _ _ _; first | apply WL.nil | (apply WL.pev tOk; exact rfl; exact rfl; exact rfl) | (apply WL.load tOk; exact rfl; exact rfl; exact rfl; exact rfl; exact rfl; (first | assumption | (focus (apply Ext.cell; rotate_left; assumption; (exact extA); done)))) | (apply WL.index tOk; exact rfl; exact rfl; exact rfl; exact rfl; exact rfl; exact rfl; exact rfl; exact rfl; assumption; (exact extA); exact rfl; omega; assumption; intro b off h; have hcc := h; first | (obtain ⟨h1, h2, h3, h4, h5, h6, _⟩ := h) | (obtain ⟨h1, h2, h3, _⟩ := h) | (obtain ⟨h1, h2, _⟩ := h) | (obtain ⟨h1, _⟩ := h)) | (apply WL.add; exact rfl; exact rfl; exact rfl; exact rfl; omega) | (apply WL.sub; exact rfl; exact rfl; exact rfl; exact rfl; omega) | (apply WL.mul; exact rfl; exact rfl; exact rfl; exact rfl; omega) | (apply WL.quo; exact rfl; exact rfl; exact rfl; exact rfl; omega) | (apply WL.rem; exact rfl; exact rfl; exact rfl; exact rfl; omega) | (apply WL.loadA tOk; exact rfl; exact rfl; exact rfl; exact rfl; exact rfl; (first | assumption | (focus (apply Cells.ext; rotate_left; assumption; (exact extA); done))); exact rfl) | (apply WL.guardF; exact rfl; exact rfl) | (apply WL.gD; exact rfl; exact rfl; all_goals intro _) | (apply WL.gN; exact rfl; exact rfl; all_goals intro _) | (apply WL.gB; exact rfl; exact rfl; all_goals intro _))
        | (show Z _ _ _ _ _; first | apply Z.tail | apply Z.then_normal | apply Z.block_normal | apply Z.then_exit | apply Z.block_exit | apply Z.then_ret | apply Z.block_ret | (apply Z.block_other; exact rfl))
        | (show W _ _ _ _ _ _; first | apply W.seq | apply W.region | apply W.block | apply W.skip | apply W.ret | apply W.exit | (apply W.condT; exact rfl) | (apply W.condF; exact rfl) | (apply W.condD; exact rfl; all_goals intro _) | (apply W.condN; exact rfl; all_goals intro _) | (apply W.condB; exact rfl; all_goals intro _)))
      exact Z.body1 Try.results95 rfl fun m => ⟨Ext.at (by (exact extA)) m, D, _, rfl, ⟨av, cv, am, cm, M, al, cl, ae, ce, hM, hS.ext (Ext.at (by (exact extA)) m)⟩, hG, .inr ⟨j, hlt, rfl, h2⟩⟩
    · rw [h1] at hleft
      repeat' (first
        | (apply WL.gT; exact rfl; exact rfl; (focus (exact dec_true (by omega); done)))
        | (apply WL.gF; exact rfl; exact rfl; (focus (exact dec_true (by omega); done)))
        | (apply W.condKT; exact rfl; (focus (exact dec_true (by omega); done)))
        | (apply W.condKF; exact rfl; (focus (exact dec_true (by omega); done)))
        | (apply WL.call; exact rfl; exact rfl; exact rfl; exact rfl; exact hcl; rintro v' w' ⟨hx, a', cap', rfl, hO⟩)
        | (apply WL.callS; exact rfl; exact rfl; exact rfl; exact rfl; exact hleft _ (by (exact extA)) _ _ (Own.row encI_ok hO))
        | (show WL _ _ _ _ _ _ _; first | apply WL.nil | (apply WL.pev tOk; exact rfl; exact rfl; exact rfl) | (apply WL.load tOk; exact rfl; exact rfl; exact rfl; exact rfl; exact rfl; (first | assumption | (focus (apply Ext.cell; rotate_left; assumption; (exact extA); done)))) | (apply WL.index tOk; exact rfl; exact rfl; exact rfl; exact rfl; exact rfl; exact rfl; exact rfl; exact rfl; assumption; (exact extA); exact rfl; omega; assumption; intro b off h; have hcc := h; first | (obtain ⟨h1, h2, h3, h4, h5, h6, _⟩ := h) | (obtain ⟨h1, h2, h3, _⟩ := h) | (obtain ⟨h1, h2, _⟩ := h) | (obtain ⟨h1, _⟩ := h)) | (apply WL.add; exact rfl; exact rfl; exact rfl; exact rfl; omega) | (apply WL.sub; exact rfl; exact rfl; exact rfl; exact rfl; omega) | (apply WL.mul; exact rfl; exact rfl; exact rfl; exact rfl; omega) | (apply WL.quo; exact rfl; exact rfl; exact rfl; exact rfl; omega) | (apply WL.rem; exact rfl; exact rfl; exact rfl; exact rfl; omega) | (apply WL.loadA tOk; exact rfl; exact rfl; exact rfl; exact rfl; exact rfl; (first | assumption | (focus (apply Cells.ext; rotate_left; assumption; (exact extA); done))); exact rfl) | (apply WL.guardF; exact rfl; exact rfl) | (apply WL.gD; exact rfl; exact rfl; all_goals intro _) | (apply WL.gN; exact rfl; exact rfl; all_goals intro _) | (apply WL.gB; exact rfl; exact rfl; all_goals intro _))
        | (show Z _ _ _ _ _; first | apply Z.tail | apply Z.then_normal | apply Z.block_normal | apply Z.then_exit | apply Z.block_exit | apply Z.then_ret | apply Z.block_ret | (apply Z.block_other; exact rfl))
        | (show W _ _ _ _ _ _; first | apply W.seq | apply W.region | apply W.block | apply W.skip | apply W.ret | apply W.exit | (apply W.condT; exact rfl) | (apply W.condF; exact rfl) | (apply W.condD; exact rfl; all_goals intro _) | (apply W.condN; exact rfl; all_goals intro _) | (apply W.condB; exact rfl; all_goals intro _)))
      refine Z.again (j + 1, D, w') ⟨by show j + 1 ≤ _; omega, (by (exact extA)), ⟨av, cv, am, cm, M, al, cl, ae, ce, hM, hS.ext (by (exact extA))⟩, hG, fun h i hi => ?_⟩ (by show 3 - (j + 1) < 3 - j; omega) ⟨rfl, rfl, rfl, rfl, trivial⟩ rfl
      by_cases he : i = j
      · subst he; subst h; rw [List.append_nil] at h2; exact h2
      · exact hgood h i (by have : i < j + 1 := hi; omega)
  · repeat' (first
      | (apply WL.gT; exact rfl; exact rfl; (focus (exact dec_false (by omega); done)))
      | (apply WL.gF; exact rfl; exact rfl; (focus (exact dec_false (by omega); done)))
      | (apply W.condKT; exact rfl; (focus (exact dec_false (by omega); done)))
      | (apply W.condKF; exact rfl; (focus (exact dec_false (by omega); done)))
      | (show WL _ _ _ _ _ _ _; first | apply WL.nil | (apply WL.pev tOk; exact rfl; exact rfl; exact rfl) | (apply WL.load tOk; exact rfl; exact rfl; exact rfl; exact rfl; exact rfl; (first | assumption | (focus (apply Ext.cell; rotate_left; assumption; (exact extA); done)))) | (apply WL.index tOk; exact rfl; exact rfl; exact rfl; exact rfl; exact rfl; exact rfl; exact rfl; exact rfl; assumption; (exact extA); exact rfl; omega; assumption; intro b off h; have hcc := h; first | (obtain ⟨h1, h2, h3, h4, h5, h6, _⟩ := h) | (obtain ⟨h1, h2, h3, _⟩ := h) | (obtain ⟨h1, h2, _⟩ := h) | (obtain ⟨h1, _⟩ := h)) | (apply WL.add; exact rfl; exact rfl; exact rfl; exact rfl; omega) | (apply WL.sub; exact rfl; exact rfl; exact rfl; exact rfl; omega) | (apply WL.mul; exact rfl; exact rfl; exact rfl; exact rfl; omega) | (apply WL.quo; exact rfl; exact rfl; exact rfl; exact rfl; omega) | (apply WL.rem; exact rfl; exact rfl; exact rfl; exact rfl; omega) | (apply WL.loadA tOk; exact rfl; exact rfl; exact rfl; exact rfl; exact rfl; (first | assumption | (focus (apply Cells.ext; rotate_left; assumption; (exact extA); done))); exact rfl) | (apply WL.guardF; exact rfl; exact rfl) | (apply WL.gD; exact rfl; exact rfl; all_goals intro _) | (apply WL.gN; exact rfl; exact rfl; all_goals intro _) | (apply WL.gB; exact rfl; exact rfl; all_goals intro _))
      | (show Z _ _ _ _ _; first | apply Z.tail | apply Z.then_normal | apply Z.block_normal | apply Z.then_exit | apply Z.block_exit | apply Z.then_ret | apply Z.block_ret | (apply Z.block_other; exact rfl))
      | (show W _ _ _ _ _ _; first | apply W.seq | apply W.region | apply W.block | apply W.skip | apply W.ret | apply W.exit | (apply W.condT; exact rfl) | (apply W.condF; exact rfl) | (apply W.condD; exact rfl; all_goals intro _) | (apply W.condN; exact rfl; all_goals intro _) | (apply W.condB; exact rfl; all_goals intro _)))
    obtain rfl : j = 3 := by omega
    exact Z.body1 Try.results95 rfl fun m => ⟨hX1.at m, D, -1, rfl, hA1.ext ((Ext.refl _).at m), hG, .inl ⟨rfl, hgood⟩⟩
end Go.Proofs.Ytmaekaflpbenmaa
