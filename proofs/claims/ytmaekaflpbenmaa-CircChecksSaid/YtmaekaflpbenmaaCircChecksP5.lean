/- Part 5 of what the claim CircChecks needs: lemmas and contracts, printed from longer texts. No conditions. -/
import Derived.Test.YtmaekaflpbenmaaRows
import Derived.Lib.SmallJoins
import Derived.KernelRfl
import Derived.WalkKit
import Derived.ProofKit
import Derived.Deep.Quiet
import Derived.Deep.LoopGhost
import Derived.StillTail
import Derived.Test.YtmaekaflpbenmaaProg
import Derived.OpenShut
import Derived.ShutString
import Derived.ChangeOld
import Derived.Deep.Slices
import Derived.SizedLaws
import Derived.Laws.StructEq
import Derived.Test.YtmaekaflpbenmaaCircChecksP4
namespace Go.Proofs.Ytmaekaflpbenmaa
open Go Go.Lt Go.RowKit
set_option linter.unusedVariables false
set_option linter.unusedSimpArgs false

abbrev hpPn (B gh : Nat) (as_ : Option Addr) (cs : Nat) (F : List Nat) (tr : Option Addr) (ct nt : Nat) (t : List Int) (ap : Option Addr) (cp na : Nat) (A : List Int) : List Piece :=
  [pcell gh #[.slice as_ F.length cs, .slice tr nt ct, .slice ap na cp] 143, prow 1 encF 155 B as_ cs F, prow 1 encI 3 B tr ct t, prow 1 encI 3 B ap cp A]
theorem HpS.mk' {B : Nat} {w : World} {gh nt na : Nat} {F : List Nat} {t A : List Int} {rest : List Piece} {as_ tr ap : Option Addr} {cs ct cp : Nat} (hA : AtOk F.length t A) (hF : ∀ x ∈ F, x = 0) (hnt : nt = t.length) (hna : na = A.length) (hS : Lt.Sep B w (hpPn B gh as_ cs F tr ct nt t ap cp na A ++ rest)) : HpS B w gh F t A rest := by
  subst hnt; subst hna; exact ⟨hA, hF, as_, cs, tr, ct, ap, cp, hS⟩
theorem heap_Len {B : Nat} {w : World} {gh : Nat} {F : List Nat} {t A : List Int} {rest : List Piece} (hH : HpS B w gh F t A rest) : Still Try.prog 117 [.pointer (some ⟨gh, 0, none⟩)] w (.int .i64 t.length) := by
  obtain ⟨as_, cs, tr, ct, ap, cp, hS⟩ := hH.mem
  have h := cells_heap (hS.cell (i := 0) rfl)
  have c1 := h.2.1
  clear h
  refine Spec.of _ Try.func117 rfl Try.ntmps117 (by kernel_rfl) rfl ?_
  repeat' (first
    | (apply WL.nilc; exact rfl; exact rfl; exact rfl)
    | (apply WL.eqNilS tOk; exact rfl; exact rfl; exact rfl; exact rfl; exact rfl; exact rfl)
    | (apply WL.neNilS tOk; exact rfl; exact rfl; exact rfl; exact rfl; exact rfl; exact rfl)
    | (apply WL.eqNil tOk; exact rfl; exact rfl; exact rfl; exact rfl; exact rfl; exact rfl)
    | (apply WL.neNil tOk; exact rfl; exact rfl; exact rfl; exact rfl; exact rfl; exact rfl)
    | (show WL _ _ _ _ _ _ _; first | apply WL.nil | (apply WL.pev tOk; exact rfl; exact rfl; exact rfl) | (apply WL.load tOk; exact rfl; exact rfl; exact rfl; exact rfl; exact rfl; (first | assumption | (focus (apply Ext.cell; rotate_left; assumption; (exact extA); done)))) | (apply WL.index tOk; exact rfl; exact rfl; exact rfl; exact rfl; exact rfl; exact rfl; exact rfl; exact rfl; assumption; (exact extA); exact rfl; omega; assumption; intro b off h; have hcc := h; first | (obtain ⟨h1, h2, h3, h4, h5, h6, _⟩ := h) | (obtain ⟨h1, h2, h3, _⟩ := h) | (obtain ⟨h1, h2, _⟩ := h) | (obtain ⟨h1, _⟩ := h)) | (apply WL.add; exact rfl; exact rfl; exact rfl; exact rfl; omega) | (apply WL.sub; exact rfl; exact rfl; exact rfl; exact rfl; omega) | (apply WL.mul; exact rfl; exact rfl; exact rfl; exact rfl; omega) | (apply WL.quo; exact rfl; exact rfl; exact rfl; exact rfl; omega) | (apply WL.rem; exact rfl; exact rfl; exact rfl; exact rfl; omega) | (apply WL.loadA tOk; exact rfl; exact rfl; exact rfl; exact rfl; exact rfl; (first | assumption | (focus (apply Cells.ext; rotate_left; assumption; (exact extA); done))); exact rfl) | (apply WL.guardF; exact rfl; exact rfl) | (apply WL.gD; exact rfl; exact rfl; all_goals intro _) | (apply WL.gN; exact rfl; exact rfl; all_goals intro _) | (apply WL.gB; exact rfl; exact rfl; all_goals intro _))
    | (show Z _ _ _ _ _; first | apply Z.tail | apply Z.then_normal | apply Z.block_normal | apply Z.then_exit | apply Z.block_exit | apply Z.then_ret | apply Z.block_ret | (apply Z.block_other; exact rfl))
    | (show W _ _ _ _ _ _; first | apply W.seq | apply W.region | apply W.block | apply W.skip | apply W.ret | apply W.exit | (apply W.condT; exact rfl) | (apply W.condF; exact rfl) | (apply W.condD; exact rfl; all_goals intro _) | (apply W.condN; exact rfl; all_goals intro _) | (apply W.condB; exact rfl; all_goals intro _)))
  exact Z.body1 Try.results117 rfl fun m => ⟨rfl, m, rfl⟩
theorem heap_known {B : Nat} {w : World} {gh : Nat} {F : List Nat} {t A : List Int} {rest : List Piece} (hH : HpS B w gh F t A rest) (v : Nat) (hv : v < F.length) : Still Try.prog 115 [.pointer (some ⟨gh, 0, none⟩), .int .i64 v] w (.bool true) := by
  obtain ⟨as_, cs, tr, ct, ap, cp, hS⟩ := hH.mem
  have h := cells_heap (hS.cell (i := 0) rfl)
  have c2 := h.2.2.1
  clear h
  have hl := hH.at_.len
  refine Spec.of _ Try.func115 rfl Try.ntmps115 (by kernel_rfl) rfl ?_
  repeat' (first
    | (apply WL.nilc; exact rfl; exact rfl; exact rfl)
    | (apply WL.eqNilS tOk; exact rfl; exact rfl; exact rfl; exact rfl; exact rfl; exact rfl)
    | (apply WL.neNilS tOk; exact rfl; exact rfl; exact rfl; exact rfl; exact rfl; exact rfl)
    | (apply WL.eqNil tOk; exact rfl; exact rfl; exact rfl; exact rfl; exact rfl; exact rfl)
    | (apply WL.neNil tOk; exact rfl; exact rfl; exact rfl; exact rfl; exact rfl; exact rfl)
    | (apply WL.gT; exact rfl; exact rfl; (focus (exact dec_true (by omega); done)))
    | (apply WL.gF; exact rfl; exact rfl; (focus (exact dec_true (by omega); done)))
    | (apply W.condKT; exact rfl; (focus (exact dec_true (by omega); done)))
    | (apply W.condKF; exact rfl; (focus (exact dec_true (by omega); done)))
    | (show WL _ _ _ _ _ _ _; first | apply WL.nil | (apply WL.pev tOk; exact rfl; exact rfl; exact rfl) | (apply WL.load tOk; exact rfl; exact rfl; exact rfl; exact rfl; exact rfl; (first | assumption | (focus (apply Ext.cell; rotate_left; assumption; (exact extA); done)))) | (apply WL.index tOk; exact rfl; exact rfl; exact rfl; exact rfl; exact rfl; exact rfl; exact rfl; exact rfl; assumption; (exact extA); exact rfl; omega; assumption; intro b off h; have hcc := h; first | (obtain ⟨h1, h2, h3, h4, h5, h6, _⟩ := h) | (obtain ⟨h1, h2, h3, _⟩ := h) | (obtain ⟨h1, h2, _⟩ := h) | (obtain ⟨h1, _⟩ := h)) | (apply WL.add; exact rfl; exact rfl; exact rfl; exact rfl; omega) | (apply WL.sub; exact rfl; exact rfl; exact rfl; exact rfl; omega) | (apply WL.mul; exact rfl; exact rfl; exact rfl; exact rfl; omega) | (apply WL.quo; exact rfl; exact rfl; exact rfl; exact rfl; omega) | (apply WL.rem; exact rfl; exact rfl; exact rfl; exact rfl; omega) | (apply WL.loadA tOk; exact rfl; exact rfl; exact rfl; exact rfl; exact rfl; (first | assumption | (focus (apply Cells.ext; rotate_left; assumption; (exact extA); done))); exact rfl) | (apply WL.guardF; exact rfl; exact rfl) | (apply WL.gD; exact rfl; exact rfl; all_goals intro _) | (apply WL.gN; exact rfl; exact rfl; all_goals intro _) | (apply WL.gB; exact rfl; exact rfl; all_goals intro _))
    | (show Z _ _ _ _ _; first | apply Z.tail | apply Z.then_normal | apply Z.block_normal | apply Z.then_exit | apply Z.block_exit | apply Z.then_ret | apply Z.block_ret | (apply Z.block_other; exact rfl))
    | (show W _ _ _ _ _ _; first | apply W.seq | apply W.region | apply W.block | apply W.skip | apply W.ret | apply W.exit | (apply W.condT; exact rfl) | (apply W.condF; exact rfl) | (apply W.condD; exact rfl; all_goals intro _) | (apply W.condN; exact rfl; all_goals intro _) | (apply W.condB; exact rfl; all_goals intro _)))
  exact Z.body1 Try.results115 rfl fun m => ⟨congrArg Value.bool (dec_true (by omega)), m, rfl⟩
/-- One thing more in it. -/
structure HpB (w0 w : World) (gh : Nat) (F : List Nat) (rest : List Piece) (t A : List Int) (p : Int → Prop) : Prop where
  ext : Ext w0 w
  hp : HpS w0.heap.size w gh F t A rest
  ho : HO t
  mem : ∀ x, x ∈ t ↔ p x
set_option maxHeartbeats 8000000 in
theorem heap_Push (w w0 : World) (gh : Nat) (F : List Nat) (t A : List Int) (rest : List Piece) (p : Int → Prop) (hB : HpB w0 w gh F rest t A p) (hn : F.length ≤ 1048576) (v : Nat) (hv : v < F.length) (hp : ¬ p v) :
    Lt.Spec Try.prog 83 [.pointer (some ⟨gh, 0, none⟩), .int .i64 v] w (fun r w' => r = .int .i64 0 ∧ ∃ t' A', HpB w0 w' gh F rest t' A' (fun x => p x ∨ x = v)) := by
  obtain ⟨hX, hH, hO, hm⟩ := hB
  have hnt : (v : Int) ∉ t := fun h => hp ((hm _).1 h)
  have htl := hH.at_.len_le
  have hAl := hH.at_.len
  have hAv := hH.at_.out v hv hnt
  have hA2 := hH.at_.push hv hnt
  have hU2 := hO.push (v : Int)
  have hAv' : A[((v : Nat) : Int).toNat]? = some (-1) := hAv
  have hkn := heap_known hH v hv
  have hZ := hH.zero
  obtain ⟨as_, cs, tr, ct, ap, cp, hS⟩ := hH.mem
  have hgt := (hS.lt (i := 0) rfl rfl).1
  have hne : blk tr ≠ some gh := fun h => by
    rcases hS.apart 2 0 _ _ rfl rfl (by decide) with h1 | h1
    · rw [show (prow 1 encI 3 w0.heap.size tr ct t).b = blk tr from rfl] at h1; rw [h1] at h; cases h
    · exact h1 h
  have h := cells_heap (hS.cell (i := 0) rfl)
  have c1 := h.2.1
  have c2 := h.2.2.1
  clear h
  have hR2 := hS.row (i := 2) rfl
  have hR3 := hS.row (i := 3) rfl
  have hset : (A.set ((v : Nat) : Int).toNat (t.length : Int))[((v : Nat) : Int).toNat]? = some (t.length : Int) := List.getElem?_set_self (by show v < A.length; omega)
  refine Spec.of _ Try.func83 rfl Try.ntmps83 (by kernel_rfl) rfl ?_
  repeat' (first
    | (apply WL.nilc; exact rfl; exact rfl; exact rfl)
    | (apply FL.nilc; exact rfl; exact rfl; exact rfl)
    | (apply WL.eqNilS tOk; exact rfl; exact rfl; exact rfl; exact rfl; exact rfl; exact rfl)
    | (apply WL.neNilS tOk; exact rfl; exact rfl; exact rfl; exact rfl; exact rfl; exact rfl)
    | (apply WL.eqNil tOk; exact rfl; exact rfl; exact rfl; exact rfl; exact rfl; exact rfl)
    | (apply WL.neNil tOk; exact rfl; exact rfl; exact rfl; exact rfl; exact rfl; exact rfl)
    | (apply WL.callS; exact rfl; exact rfl; exact rfl; exact rfl; exact hkn)
    | (apply WL.gT; exact rfl; exact rfl; (focus (first | exact dec_false (by decide) | exact dec_true (by omega); done)))
    | (apply WL.gF; exact rfl; exact rfl; (focus (first | exact dec_false (by decide) | exact dec_true (by omega); done)))
    | (apply FL.gT; exact rfl; exact rfl; (focus (first | exact dec_false (by decide) | exact dec_true (by omega); done)))
    | (apply FL.gF; exact rfl; exact rfl; (focus (first | exact dec_false (by decide) | exact dec_true (by omega); done)))
    | (apply W.condKT; exact rfl; (focus (first | exact dec_false (by decide) | exact dec_true (by omega); done)))
    | (apply W.condKF; exact rfl; (focus (first | exact dec_false (by decide) | exact dec_true (by omega); done)))
    | (show W _ _ (.region 5 _ _) _ _ _; apply W.regionGB (.fl true 0 (.fl true 1 (.fl true 2 (.fl true 4 (.fl true 5 (.fl true 6 (.fl true 7 (.fl false 3 (.fl false 8 (.fl true 9 (.fl true 10 (.br 11 .done .stop)))))))))))) [8, 9] (none) tMix; kernel_rfl)
    | (apply WL.storeO tOk; exact rfl; exact rfl; exact rfl; exact rfl; assumption; (exact extA); exact rfl; exact rfl; exact rfl; exact encI_ok; assumption; exact rfl; (exact extA); intro w' hO hX' hU; (first | replace hS := Sep.updRow (i := 0) rfl hU hO (.inl rfl) hS (by (exact extA)) (by (first | exact Nat.le_refl _ | exact Below.size (by (exact extA)))) | replace hS := Sep.updRow (i := 1) rfl hU hO (.inl rfl) hS (by (exact extA)) (by (first | exact Nat.le_refl _ | exact Below.size (by (exact extA)))) | replace hS := Sep.updRow (i := 2) rfl hU hO (.inl rfl) hS (by (exact extA)) (by (first | exact Nat.le_refl _ | exact Below.size (by (exact extA)))) | replace hS := Sep.updRow (i := 3) rfl hU hO (.inl rfl) hS (by (exact extA)) (by (first | exact Nat.le_refl _ | exact Below.size (by (exact extA)))) | replace hS := Sep.updRow (i := 4) rfl hU hO (.inl rfl) hS (by (exact extA)) (by (first | exact Nat.le_refl _ | exact Below.size (by (exact extA)))) | replace hS := Sep.updRow (i := 5) rfl hU hO (.inl rfl) hS (by (exact extA)) (by (first | exact Nat.le_refl _ | exact Below.size (by (exact extA))))); (try simp only [List.set_cons_zero, List.set_cons_succ] at hS); (try have hR0 := hS.row (i := 0) rfl); (try have hR1 := hS.row (i := 1) rfl); (try have hR2 := hS.row (i := 2) rfl); (try have hR3 := hS.row (i := 3) rfl); (try have hR4 := hS.row (i := 4) rfl); (try have hC0 := hS.cell (i := 0) rfl); (try have hD0 := (cells_heap hC0).1); (try have hE0 := (cells_heap hC0).2.1); (try have hF0 := (cells_heap hC0).2.2.1); (try have hG0 := (cells_heap hC0).2.2.2.1); (try have hC1 := hS.cell (i := 1) rfl); (try have hD1 := (cells_heap hC1).1); (try have hE1 := (cells_heap hC1).2.1); (try have hF1 := (cells_heap hC1).2.2.1); (try have hG1 := (cells_heap hC1).2.2.2.1); (try have hC2 := hS.cell (i := 2) rfl); (try have hD2 := (cells_heap hC2).1); (try have hE2 := (cells_heap hC2).2.1); (try have hF2 := (cells_heap hC2).2.2.1); (try have hG2 := (cells_heap hC2).2.2.2.1); (try have hC3 := hS.cell (i := 3) rfl); (try have hD3 := (cells_heap hC3).1); (try have hE3 := (cells_heap hC3).2.1); (try have hF3 := (cells_heap hC3).2.2.1); (try have hG3 := (cells_heap hC3).2.2.2.1); (try have hC4 := hS.cell (i := 4) rfl); (try have hD4 := (cells_heap hC4).1); (try have hE4 := (cells_heap hC4).2.1); (try have hF4 := (cells_heap hC4).2.2.1); (try have hG4 := (cells_heap hC4).2.2.2.1); (try have hM0 := hS.map (i := 0) rfl); (try have hM1 := hS.map (i := 1) rfl); (try have hM2 := hS.map (i := 2) rfl); (try have hM3 := hS.map (i := 3) rfl); (try have hM4 := hS.map (i := 4) rfl))
    | (apply WL.indexO tOk; exact rfl; exact rfl; exact rfl; exact rfl; exact rfl; exact rfl; exact rfl; exact rfl; assumption; (exact extA); exact encI_ok; (first | exact rfl | (focus (simp only [List.length_set]; done)) | (focus (simp; done)) | (focus (simp [*]; done)) | omega | (focus (simp only [List.length_set]; omega))); omega; assumption; intro gb ha hc; cases ha; have hcc := hc; first | (obtain ⟨h1, h2, h3, _⟩ := hc) | (obtain ⟨h1, h2, _⟩ := hc) | (obtain ⟨h1, _⟩ := hc))
    | (apply FL.indexO tOk; exact rfl; exact rfl; exact rfl; exact rfl; exact rfl; exact rfl; exact rfl; exact rfl; assumption; (exact extA); exact encI_ok; (first | exact rfl | (focus (simp only [List.length_set]; done)) | (focus (simp; done)) | (focus (simp [*]; done)) | omega | (focus (simp only [List.length_set]; omega))); omega; assumption; intro gb ha hc; cases ha; have hcc := hc; first | (obtain ⟨h1, h2, h3, _⟩ := hc) | (obtain ⟨h1, h2, _⟩ := hc) | (obtain ⟨h1, _⟩ := hc))
    | (apply WL.lit tOk; exact rfl; exact rfl; exact rfl; exact rfl; exact rfl; exact rfl; (first | exact rfl | kernel_rfl | (simp [Instr.fill, catCells]; done)); exact rfl; intro gb w' hb hge hc hx)
    | (apply WL.append1 (z := ((v : Int))) tOk encI_ok; exact rfl; exact rfl; exact rfl; exact rfl; exact rfl; exact rfl; exact rfl; exact rfl; exact rfl; exact rfl; assumption; (exact extA); (first | exact rfl | (focus (simp only [List.length_set]; done)) | (focus (simp; done)) | (focus (simp [*]; done)) | omega | (focus (simp only [List.length_set]; omega))); assumption; exact rfl; exact rfl; (exact extA); (first | omega | (simp; omega) | (simp at *; omega)); intro a' cap' w' hO hX' hU hF; (first | replace hS := Sep.updRow (i := 0) rfl hU hO hF hS (by (exact extA)) (by (first | exact Nat.le_refl _ | exact Below.size (by (exact extA)))) | replace hS := Sep.updRow (i := 1) rfl hU hO hF hS (by (exact extA)) (by (first | exact Nat.le_refl _ | exact Below.size (by (exact extA)))) | replace hS := Sep.updRow (i := 2) rfl hU hO hF hS (by (exact extA)) (by (first | exact Nat.le_refl _ | exact Below.size (by (exact extA)))) | replace hS := Sep.updRow (i := 3) rfl hU hO hF hS (by (exact extA)) (by (first | exact Nat.le_refl _ | exact Below.size (by (exact extA)))) | replace hS := Sep.updRow (i := 4) rfl hU hO hF hS (by (exact extA)) (by (first | exact Nat.le_refl _ | exact Below.size (by (exact extA)))) | replace hS := Sep.updRow (i := 5) rfl hU hO hF hS (by (exact extA)) (by (first | exact Nat.le_refl _ | exact Below.size (by (exact extA))))); (try simp only [List.set_cons_zero, List.set_cons_succ] at hS); (try have hR0 := hS.row (i := 0) rfl); (try have hR1 := hS.row (i := 1) rfl); (try have hR2 := hS.row (i := 2) rfl); (try have hR3 := hS.row (i := 3) rfl); (try have hR4 := hS.row (i := 4) rfl); (try have hC0 := hS.cell (i := 0) rfl); (try have hD0 := (cells_heap hC0).1); (try have hE0 := (cells_heap hC0).2.1); (try have hF0 := (cells_heap hC0).2.2.1); (try have hG0 := (cells_heap hC0).2.2.2.1); (try have hC1 := hS.cell (i := 1) rfl); (try have hD1 := (cells_heap hC1).1); (try have hE1 := (cells_heap hC1).2.1); (try have hF1 := (cells_heap hC1).2.2.1); (try have hG1 := (cells_heap hC1).2.2.2.1); (try have hC2 := hS.cell (i := 2) rfl); (try have hD2 := (cells_heap hC2).1); (try have hE2 := (cells_heap hC2).2.1); (try have hF2 := (cells_heap hC2).2.2.1); (try have hG2 := (cells_heap hC2).2.2.2.1); (try have hC3 := hS.cell (i := 3) rfl); (try have hD3 := (cells_heap hC3).1); (try have hE3 := (cells_heap hC3).2.1); (try have hF3 := (cells_heap hC3).2.2.1); (try have hG3 := (cells_heap hC3).2.2.2.1); (try have hC4 := hS.cell (i := 4) rfl); (try have hD4 := (cells_heap hC4).1); (try have hE4 := (cells_heap hC4).2.1); (try have hF4 := (cells_heap hC4).2.2.1); (try have hG4 := (cells_heap hC4).2.2.2.1); (try have hM0 := hS.map (i := 0) rfl); (try have hM1 := hS.map (i := 1) rfl); (try have hM2 := hS.map (i := 2) rfl); (try have hM3 := hS.map (i := 3) rfl); (try have hM4 := hS.map (i := 4) rfl))
    | (apply WL.storeF (w0 := w0) tOk; exact rfl; exact rfl; exact rfl; exact rfl; assumption; (exact extA); exact rfl; exact rfl; exact rfl; exact rfl; (exact extA); (first | assumption | omega); intro w' hb hX' hU; replace hS := Sep.updCell (i := 0) rfl hU hb hS (by (exact extA)) (by (first | exact Nat.le_refl _ | exact Below.size (by (exact extA)))); (try simp only [List.set_cons_zero, List.set_cons_succ] at hS); (try have hR0 := hS.row (i := 0) rfl); (try have hR1 := hS.row (i := 1) rfl); (try have hR2 := hS.row (i := 2) rfl); (try have hR3 := hS.row (i := 3) rfl); (try have hR4 := hS.row (i := 4) rfl); (try have hC0 := hS.cell (i := 0) rfl); (try have hD0 := (cells_heap hC0).1); (try have hE0 := (cells_heap hC0).2.1); (try have hF0 := (cells_heap hC0).2.2.1); (try have hG0 := (cells_heap hC0).2.2.2.1); (try have hC1 := hS.cell (i := 1) rfl); (try have hD1 := (cells_heap hC1).1); (try have hE1 := (cells_heap hC1).2.1); (try have hF1 := (cells_heap hC1).2.2.1); (try have hG1 := (cells_heap hC1).2.2.2.1); (try have hC2 := hS.cell (i := 2) rfl); (try have hD2 := (cells_heap hC2).1); (try have hE2 := (cells_heap hC2).2.1); (try have hF2 := (cells_heap hC2).2.2.1); (try have hG2 := (cells_heap hC2).2.2.2.1); (try have hC3 := hS.cell (i := 3) rfl); (try have hD3 := (cells_heap hC3).1); (try have hE3 := (cells_heap hC3).2.1); (try have hF3 := (cells_heap hC3).2.2.1); (try have hG3 := (cells_heap hC3).2.2.2.1); (try have hC4 := hS.cell (i := 4) rfl); (try have hD4 := (cells_heap hC4).1); (try have hE4 := (cells_heap hC4).2.1); (try have hF4 := (cells_heap hC4).2.2.1); (try have hG4 := (cells_heap hC4).2.2.2.1); (try have hM0 := hS.map (i := 0) rfl); (try have hM1 := hS.map (i := 1) rfl); (try have hM2 := hS.map (i := 2) rfl); (try have hM3 := hS.map (i := 3) rfl); (try have hM4 := hS.map (i := 4) rfl))
    | (show WL _ _ _ _ _ _ _; first | apply WL.nil | (apply WL.pev tOk; exact rfl; exact rfl; exact rfl) | (apply WL.load tOk; exact rfl; exact rfl; exact rfl; exact rfl; exact rfl; (first | assumption | (focus (apply Ext.cell; rotate_left; assumption; (exact extA); done)))) | (apply WL.index tOk; exact rfl; exact rfl; exact rfl; exact rfl; exact rfl; exact rfl; exact rfl; exact rfl; assumption; (exact extA); exact rfl; omega; assumption; intro b off h; have hcc := h; first | (obtain ⟨h1, h2, h3, h4, h5, h6, _⟩ := h) | (obtain ⟨h1, h2, h3, _⟩ := h) | (obtain ⟨h1, h2, _⟩ := h) | (obtain ⟨h1, _⟩ := h)) | (apply WL.add; exact rfl; exact rfl; exact rfl; exact rfl; omega) | (apply WL.sub; exact rfl; exact rfl; exact rfl; exact rfl; omega) | (apply WL.mul; exact rfl; exact rfl; exact rfl; exact rfl; omega) | (apply WL.quo; exact rfl; exact rfl; exact rfl; exact rfl; omega) | (apply WL.rem; exact rfl; exact rfl; exact rfl; exact rfl; omega) | (apply WL.loadA tOk; exact rfl; exact rfl; exact rfl; exact rfl; exact rfl; (first | assumption | (focus (apply Cells.ext; rotate_left; assumption; (exact extA); done))); exact rfl) | (apply WL.guardF; exact rfl; exact rfl) | (apply WL.gD; exact rfl; exact rfl; all_goals intro _) | (apply WL.gN; exact rfl; exact rfl; all_goals intro _) | (apply WL.gB; exact rfl; exact rfl; all_goals intro _))
    | (show SG _ _ _ _ _ _ _ _ _; first | apply SG.done | apply SG.stop | (apply SG.fl0; exact rfl) | (apply SG.fl1; exact rfl; (focus ((intro m; first | assumption | (apply Ext.at; (exact extA)) | apply But.of_at; first | exact But.upd (by assumption) | exact But.ext (by (exact extA)) | (refine But.trans ?_ (But.upd (by assumption)); exact But.ext (by (exact extA))) | exact But.at _ _ _); done))) | (apply SG.br1; exact rfl) | (apply SG.br; exact rfl))
    | (show FL _ _ _ _ _ _ _ _; first | apply FL.nilS | (apply FL.pev tOk; exact rfl; exact rfl; exact rfl) | (apply FL.loadG tOk; exact rfl; exact rfl; exact rfl; exact rfl; exact rfl; (first | assumption | (focus (apply Ext.cell; rotate_left; assumption; (exact extA); done))); (first | (focus (intro h; cases h; done)) | (focus (intro h; have h9 := hBC _ h; (try simp only at h9); omega)) | assumption | (focus (intro h; simp only [blk, Option.map_some, Option.some.injEq] at h; omega)))) | (apply FL.index tOk; exact rfl; exact rfl; exact rfl; exact rfl; exact rfl; exact rfl; exact rfl; exact rfl; assumption; (exact extA); exact rfl; omega; assumption; exact List.cons_ne_nil _ _; intro b off h hbl; have hcc := h; first | (obtain ⟨h1, h2, h3, h4, h5, h6, _⟩ := h) | (obtain ⟨h1, h2, h3, _⟩ := h) | (obtain ⟨h1, h2, _⟩ := h) | (obtain ⟨h1, _⟩ := h)) | (apply FL.add; exact rfl; exact rfl; exact rfl; exact rfl; omega) | (apply FL.sub; exact rfl; exact rfl; exact rfl; exact rfl; omega) | (apply FL.mul; exact rfl; exact rfl; exact rfl; exact rfl; omega) | (apply FL.quo; exact rfl; exact rfl; exact rfl; exact rfl; omega) | (apply FL.rem; exact rfl; exact rfl; exact rfl; exact rfl; omega) | (apply FL.loadAG tOk; exact rfl; exact rfl; exact rfl; exact rfl; exact rfl; (first | assumption | (focus (apply Cells.ext; rotate_left; assumption; (exact extA); done))); exact rfl; (first | (focus (intro h; cases h; done)) | (focus (intro h; have h9 := hBC _ h; (try simp only at h9); omega)) | assumption | (focus (intro h; simp only [blk, Option.map_some, Option.some.injEq] at h; omega)))) | (apply FL.guardF; exact rfl; exact rfl) | (apply FL.gD; exact rfl; exact rfl; all_goals intro _) | (apply FL.gN; exact rfl; exact rfl; all_goals intro _) | (apply FL.gB; exact rfl; exact rfl; all_goals intro _))
    | (show Z _ _ _ _ _; first | (apply Z.sgL; exact rfl) | (apply Z.sgE; (focus ((intro m; first | assumption | (apply Ext.at; (exact extA)) | apply But.of_at; first | exact But.upd (by assumption) | exact But.ext (by (exact extA)) | (refine But.trans ?_ (But.upd (by assumption)); exact But.ext (by (exact extA))) | exact But.at _ _ _); done))))
    | (show Z _ _ _ _ _; first | apply Z.tail | apply Z.then_normal | apply Z.block_normal | apply Z.then_exit | apply Z.block_exit | apply Z.then_ret | apply Z.block_ret | (apply Z.block_other; exact rfl))
    | (show W _ _ _ _ _ _; first | apply W.seq | apply W.region | apply W.block | apply W.skip | apply W.ret | apply W.exit | (apply W.condT; exact rfl) | (apply W.condF; exact rfl) | (apply W.condD; exact rfl; all_goals intro _) | (apply W.condN; exact rfl; all_goals intro _) | (apply W.condB; exact rfl; all_goals intro _)))
  have hH2 : HpS w0.heap.size w' gh F (t ++ [(v : Int)]) (A.set v (t.length : Int)) rest := HpS.mk' hA2 hZ rfl (by rw [List.length_set]) hS
  have hup := heap_up w' w0 gh F (t ++ [(v : Int)]) (A.set v (t.length : Int)) rest hX' hH2 hn t.length (by simp) hU2
  repeat' (first
    | (((show WL _ _ _ (⟨_, .call ⟨.value (.func 116), _, _⟩, _, _, _, _⟩ :: _) _ _ _); apply WL.call; exact rfl; exact rfl; exact rfl; exact rfl; exact hup; rintro v' w2 ⟨rfl, t2, A2, hR2, hO2⟩))
    | (show WL _ _ _ _ _ _ _; first | apply WL.nil | (apply WL.pev tOk; exact rfl; exact rfl; exact rfl) | (apply WL.load tOk; exact rfl; exact rfl; exact rfl; exact rfl; exact rfl; (first | assumption | (focus (apply Ext.cell; rotate_left; assumption; (exact extA); done)))) | (apply WL.index tOk; exact rfl; exact rfl; exact rfl; exact rfl; exact rfl; exact rfl; exact rfl; exact rfl; assumption; (exact extA); exact rfl; omega; assumption; intro b off h; have hcc := h; first | (obtain ⟨h1, h2, h3, h4, h5, h6, _⟩ := h) | (obtain ⟨h1, h2, h3, _⟩ := h) | (obtain ⟨h1, h2, _⟩ := h) | (obtain ⟨h1, _⟩ := h)) | (apply WL.add; exact rfl; exact rfl; exact rfl; exact rfl; omega) | (apply WL.sub; exact rfl; exact rfl; exact rfl; exact rfl; omega) | (apply WL.mul; exact rfl; exact rfl; exact rfl; exact rfl; omega) | (apply WL.quo; exact rfl; exact rfl; exact rfl; exact rfl; omega) | (apply WL.rem; exact rfl; exact rfl; exact rfl; exact rfl; omega) | (apply WL.loadA tOk; exact rfl; exact rfl; exact rfl; exact rfl; exact rfl; (first | assumption | (focus (apply Cells.ext; rotate_left; assumption; (exact extA); done))); exact rfl) | (apply WL.guardF; exact rfl; exact rfl) | (apply WL.gD; exact rfl; exact rfl; all_goals intro _) | (apply WL.gN; exact rfl; exact rfl; all_goals intro _) | (apply WL.gB; exact rfl; exact rfl; all_goals intro _))
    | (show Z _ _ _ _ _; first | apply Z.tail | apply Z.then_normal | apply Z.block_normal | apply Z.then_exit | apply Z.block_exit | apply Z.then_ret | apply Z.block_ret | (apply Z.block_other; exact rfl))
    | (show W _ _ _ _ _ _; first | apply W.seq | apply W.region | apply W.block | apply W.skip | apply W.ret | apply W.exit | (apply W.condT; exact rfl) | (apply W.condF; exact rfl) | (apply W.condD; exact rfl; all_goals intro _) | (apply W.condN; exact rfl; all_goals intro _) | (apply W.condB; exact rfl; all_goals intro _)))
  refine Z.body1 Try.results83 rfl fun m => ⟨rfl, t2, A2, hR2.ext.at m, hR2.hp.ext ((Ext.refl _).at m), hO2, fun x => ?_⟩
  rw [hR2.mem x, List.mem_append, hm x, List.mem_singleton]
theorem heap_Pop0 {w w0 : World} {gh : Nat} {F : List Nat} {A : List Int} {rest : List Piece} {p : Int → Prop} (hB : HpB w0 w gh F rest [] A p) : Still Try.prog 84 [.pointer (some ⟨gh, 0, none⟩)] w (.tuple #[.int .i64 0, .bool false]) := by
  have hl := heap_Len hB.hp
  refine Spec.of _ Try.func84 rfl Try.ntmps84 (by kernel_rfl) rfl ?_
  repeat' (first
    | (apply WL.callS; exact rfl; exact rfl; exact rfl; exact rfl; exact hl)
    | (apply WL.gT; exact rfl; exact rfl; (focus (exact dec_true rfl; done)))
    | (apply WL.gF; exact rfl; exact rfl; (focus (exact dec_true rfl; done)))
    | (apply W.condKT; exact rfl; (focus (exact dec_true rfl; done)))
    | (apply W.condKF; exact rfl; (focus (exact dec_true rfl; done)))
    | (show WL _ _ _ _ _ _ _; first | apply WL.nil | (apply WL.pev tOk; exact rfl; exact rfl; exact rfl) | (apply WL.load tOk; exact rfl; exact rfl; exact rfl; exact rfl; exact rfl; (first | assumption | (focus (apply Ext.cell; rotate_left; assumption; (exact extA); done)))) | (apply WL.index tOk; exact rfl; exact rfl; exact rfl; exact rfl; exact rfl; exact rfl; exact rfl; exact rfl; assumption; (exact extA); exact rfl; omega; assumption; intro b off h; have hcc := h; first | (obtain ⟨h1, h2, h3, h4, h5, h6, _⟩ := h) | (obtain ⟨h1, h2, h3, _⟩ := h) | (obtain ⟨h1, h2, _⟩ := h) | (obtain ⟨h1, _⟩ := h)) | (apply WL.add; exact rfl; exact rfl; exact rfl; exact rfl; omega) | (apply WL.sub; exact rfl; exact rfl; exact rfl; exact rfl; omega) | (apply WL.mul; exact rfl; exact rfl; exact rfl; exact rfl; omega) | (apply WL.quo; exact rfl; exact rfl; exact rfl; exact rfl; omega) | (apply WL.rem; exact rfl; exact rfl; exact rfl; exact rfl; omega) | (apply WL.loadA tOk; exact rfl; exact rfl; exact rfl; exact rfl; exact rfl; (first | assumption | (focus (apply Cells.ext; rotate_left; assumption; (exact extA); done))); exact rfl) | (apply WL.guardF; exact rfl; exact rfl) | (apply WL.gD; exact rfl; exact rfl; all_goals intro _) | (apply WL.gN; exact rfl; exact rfl; all_goals intro _) | (apply WL.gB; exact rfl; exact rfl; all_goals intro _))
    | (show Z _ _ _ _ _; first | apply Z.tail | apply Z.then_normal | apply Z.block_normal | apply Z.then_exit | apply Z.block_exit | apply Z.then_ret | apply Z.block_ret | (apply Z.block_other; exact rfl))
    | (show W _ _ _ _ _ _; first | apply W.seq | apply W.region | apply W.block | apply W.skip | apply W.ret | apply W.exit | (apply W.condT; exact rfl) | (apply W.condF; exact rfl) | (apply W.condD; exact rfl; all_goals intro _) | (apply W.condN; exact rfl; all_goals intro _) | (apply W.condB; exact rfl; all_goals intro _)))
  exact Z.body2 Try.results84 rfl rfl fun m => ⟨rfl, m, rfl⟩
set_option maxHeartbeats 8000000 in
theorem heap_Pop (w w0 : World) (gh : Nat) (F : List Nat) (t A : List Int) (rest : List Piece) (p : Int → Prop) (hB : HpB w0 w gh F rest t A p) (hn : F.length ≤ 1048576) (ya : Int) (h0 : t[0]? = some ya) :
    Lt.Spec Try.prog 84 [.pointer (some ⟨gh, 0, none⟩)] w (fun r w' => r = .tuple #[.int .i64 ya, .bool true] ∧ ∃ t' A', HpB w0 w' gh F rest t' A' (fun x => p x ∧ x ≠ ya)) := by
  obtain ⟨hX, hH, hO, hm⟩ := hB
  have htl := hH.at_.len_le
  have hAl := hH.at_.len
  have hlen0 := lt_of_get h0
  obtain ⟨l, hl⟩ : ∃ l, t.length = l + 1 := ⟨t.length - 1, by omega⟩
  obtain ⟨yb, hyb⟩ := getI t (show l < t.length by omega)
  have la := hH.at_.lt h0
  have hD2 := pop_down hO hl h0 hyb
  have hA2 := pop_at hH.at_ hl h0 hyb
  have hM2 := pop_mem hH.at_ hl h0 hyb
  have hL2 := pop_len (a := ya) (b := yb) hl
  have hlenc := heap_Len hH
  have hZ := hH.zero
  obtain ⟨as_, cs, tr, ct, ap, cp, hS⟩ := hH.mem
  have hsw := heap_swap hX hS hH.at_ 0 l ya yb h0 hyb (by omega)
  have h := cells_heap (hS.cell (i := 0) rfl)
  have c1 := h.2.1
  clear h
  have Rt := Own.row encI_ok (hS.row (i := 2) rfl)
  have h0' : t[(0 : Int).toNat]? = some ya := h0
  have el : ((t.length : Nat) : Int) - 1 = (l : Int) := by omega
  have hsl := swp_len t 0 l ya yb
  obtain ⟨z1, hz1⟩ := getI ((A.set yb.toNat ((0 : Nat) : Int)).set ya.toNat (l : Int)) (show ya.toNat < _ by rw [List.length_set, List.length_set]; omega)
  refine Spec.of _ Try.func84 rfl Try.ntmps84 (by kernel_rfl) rfl ?_
  repeat' (first
    | (apply WL.nilc; exact rfl; exact rfl; exact rfl)
    | (apply QL.nilc; exact rfl; exact rfl; exact rfl)
    | (apply WL.eqNilS tOk; exact rfl; exact rfl; exact rfl; exact rfl; exact rfl; exact rfl)
    | (apply WL.neNilS tOk; exact rfl; exact rfl; exact rfl; exact rfl; exact rfl; exact rfl)
    | (apply WL.eqNil tOk; exact rfl; exact rfl; exact rfl; exact rfl; exact rfl; exact rfl)
    | (apply WL.neNil tOk; exact rfl; exact rfl; exact rfl; exact rfl; exact rfl; exact rfl)
    | (apply QL.eqNil tOk; exact rfl; exact rfl; exact rfl; exact rfl; exact rfl; exact rfl)
    | (apply QL.neNil tOk; exact rfl; exact rfl; exact rfl; exact rfl; exact rfl; exact rfl)
    | (apply WL.callS; exact rfl; exact rfl; exact rfl; exact rfl; exact hlenc)
    | (apply QL.callS; exact rfl; exact rfl; exact rfl; exact rfl; exact hlenc)
    | (apply WL.gT; exact rfl; exact rfl; (focus (first | exact dec_false (by omega); done)))
    | (apply WL.gF; exact rfl; exact rfl; (focus (first | exact dec_false (by omega); done)))
    | (apply QL.gT; exact rfl; exact rfl; (focus (first | exact dec_false (by omega); done)))
    | (apply QL.gF; exact rfl; exact rfl; (focus (first | exact dec_false (by omega); done)))
    | (apply W.condKT; exact rfl; (focus (first | exact dec_false (by omega); done)))
    | (apply W.condKF; exact rfl; (focus (first | exact dec_false (by omega); done)))
    | (show WL _ _ _ _ _ _ _; first | apply WL.nil | (apply WL.pev tOk; exact rfl; exact rfl; exact rfl) | (apply WL.load tOk; exact rfl; exact rfl; exact rfl; exact rfl; exact rfl; (first | assumption | (focus (apply Ext.cell; rotate_left; assumption; (exact extA); done)))) | (apply WL.index tOk; exact rfl; exact rfl; exact rfl; exact rfl; exact rfl; exact rfl; exact rfl; exact rfl; assumption; (exact extA); exact rfl; omega; assumption; intro b off h; have hcc := h; first | (obtain ⟨h1, h2, h3, h4, h5, h6, _⟩ := h) | (obtain ⟨h1, h2, h3, _⟩ := h) | (obtain ⟨h1, h2, _⟩ := h) | (obtain ⟨h1, _⟩ := h)) | (apply WL.add; exact rfl; exact rfl; exact rfl; exact rfl; omega) | (apply WL.sub; exact rfl; exact rfl; exact rfl; exact rfl; omega) | (apply WL.mul; exact rfl; exact rfl; exact rfl; exact rfl; omega) | (apply WL.quo; exact rfl; exact rfl; exact rfl; exact rfl; omega) | (apply WL.rem; exact rfl; exact rfl; exact rfl; exact rfl; omega) | (apply WL.loadA tOk; exact rfl; exact rfl; exact rfl; exact rfl; exact rfl; (first | assumption | (focus (apply Cells.ext; rotate_left; assumption; (exact extA); done))); exact rfl) | (apply WL.guardF; exact rfl; exact rfl) | (apply WL.gD; exact rfl; exact rfl; all_goals intro _) | (apply WL.gN; exact rfl; exact rfl; all_goals intro _) | (apply WL.gB; exact rfl; exact rfl; all_goals intro _))
    | (show QL _ _ _ _ _ _ _; first | apply QL.nil | (apply QL.pev tOk; exact rfl; exact rfl; exact rfl) | (apply QL.load tOk; exact rfl; exact rfl; exact rfl; exact rfl; exact rfl; (first | assumption | (focus (apply Ext.cell; rotate_left; assumption; (exact extA); done)))) | (apply QL.index tOk; exact rfl; exact rfl; exact rfl; exact rfl; exact rfl; exact rfl; exact rfl; exact rfl; assumption; (exact extA); exact rfl; omega; assumption; intro b off h; have hcc := h; first | (obtain ⟨h1, h2, h3, h4, h5, h6, _⟩ := h) | (obtain ⟨h1, h2, h3, _⟩ := h) | (obtain ⟨h1, h2, _⟩ := h) | (obtain ⟨h1, _⟩ := h)) | (apply QL.add; exact rfl; exact rfl; exact rfl; exact rfl; omega) | (apply QL.sub; exact rfl; exact rfl; exact rfl; exact rfl; omega) | (apply QL.mul; exact rfl; exact rfl; exact rfl; exact rfl; omega) | (apply QL.quo; exact rfl; exact rfl; exact rfl; exact rfl; omega) | (apply QL.rem; exact rfl; exact rfl; exact rfl; exact rfl; omega) | (apply QL.loadA tOk; exact rfl; exact rfl; exact rfl; exact rfl; exact rfl; (first | assumption | (focus (apply Cells.ext; rotate_left; assumption; (exact extA); done))); exact rfl) | (apply QL.guardF; exact rfl; exact rfl) | (apply QL.gD; exact rfl; exact rfl; all_goals intro _) | (apply QL.gN; exact rfl; exact rfl; all_goals intro _) | (apply QL.gB; exact rfl; exact rfl; all_goals intro _))
    | (show Z _ _ _ _ _; first | apply Z.tail | apply Z.then_normal | apply Z.block_normal | apply Z.then_exit | apply Z.block_exit | apply Z.then_ret | apply Z.block_ret | (apply Z.block_other; exact rfl))
    | (show W _ _ _ _ _ _; first | apply W.seq | apply W.region | apply W.block | apply W.skip | apply W.ret | apply W.exit | (apply W.condT; exact rfl) | (apply W.condF; exact rfl) | (apply W.condD; exact rfl; all_goals intro _) | (apply W.condN; exact rfl; all_goals intro _) | (apply W.condB; exact rfl; all_goals intro _) | (apply W.regionD tMix; kernel_rfl)))
  rw [el]
  repeat' (first
    | (((show WL _ _ _ (⟨_, .call ⟨.value (.func 118), _, _⟩, _, _, _, _⟩ :: _) _ _ _); apply WL.call; exact rfl; exact rfl; exact rfl; exact rfl; exact hsw; rintro v' w2 ⟨rfl, hX2, hS⟩))
    | (show WL _ _ _ _ _ _ _; first | apply WL.nil | (apply WL.pev tOk; exact rfl; exact rfl; exact rfl) | (apply WL.load tOk; exact rfl; exact rfl; exact rfl; exact rfl; exact rfl; (first | assumption | (focus (apply Ext.cell; rotate_left; assumption; (exact extA); done)))) | (apply WL.index tOk; exact rfl; exact rfl; exact rfl; exact rfl; exact rfl; exact rfl; exact rfl; exact rfl; assumption; (exact extA); exact rfl; omega; assumption; intro b off h; have hcc := h; first | (obtain ⟨h1, h2, h3, h4, h5, h6, _⟩ := h) | (obtain ⟨h1, h2, h3, _⟩ := h) | (obtain ⟨h1, h2, _⟩ := h) | (obtain ⟨h1, _⟩ := h)) | (apply WL.add; exact rfl; exact rfl; exact rfl; exact rfl; omega) | (apply WL.sub; exact rfl; exact rfl; exact rfl; exact rfl; omega) | (apply WL.mul; exact rfl; exact rfl; exact rfl; exact rfl; omega) | (apply WL.quo; exact rfl; exact rfl; exact rfl; exact rfl; omega) | (apply WL.rem; exact rfl; exact rfl; exact rfl; exact rfl; omega) | (apply WL.loadA tOk; exact rfl; exact rfl; exact rfl; exact rfl; exact rfl; (first | assumption | (focus (apply Cells.ext; rotate_left; assumption; (exact extA); done))); exact rfl) | (apply WL.guardF; exact rfl; exact rfl) | (apply WL.gD; exact rfl; exact rfl; all_goals intro _) | (apply WL.gN; exact rfl; exact rfl; all_goals intro _) | (apply WL.gB; exact rfl; exact rfl; all_goals intro _))
    | (show Z _ _ _ _ _; first | apply Z.tail | apply Z.then_normal | apply Z.block_normal | apply Z.then_exit | apply Z.block_exit | apply Z.then_ret | apply Z.block_ret | (apply Z.block_other; exact rfl))
    | (show W _ _ _ _ _ _; first | apply W.seq | apply W.region | apply W.block | apply W.skip | apply W.ret | apply W.exit | (apply W.condT; exact rfl) | (apply W.condF; exact rfl) | (apply W.condD; exact rfl; all_goals intro _) | (apply W.condN; exact rfl; all_goals intro _) | (apply W.condB; exact rfl; all_goals intro _)))
  have hgt := (hS.lt (i := 0) rfl rfl).1
  have h := cells_heap (hS.cell (i := 0) rfl)
  have c1 := h.2.1
  have c2 := h.2.2.1
  clear h
  have hR2 := hS.row (i := 2) rfl
  have hR3 := hS.row (i := 3) rfl
  have hcap := hR2.capLe
  (try simp only [List.set_cons_zero, List.set_cons_succ] at hS); (try have hR0 := hS.row (i := 0) rfl); (try have hR1 := hS.row (i := 1) rfl); (try have hR2 := hS.row (i := 2) rfl); (try have hR3 := hS.row (i := 3) rfl); (try have hR4 := hS.row (i := 4) rfl); (try have hC0 := hS.cell (i := 0) rfl); (try have hD0 := (cells_heap hC0).1); (try have hE0 := (cells_heap hC0).2.1); (try have hF0 := (cells_heap hC0).2.2.1); (try have hG0 := (cells_heap hC0).2.2.2.1); (try have hC1 := hS.cell (i := 1) rfl); (try have hD1 := (cells_heap hC1).1); (try have hE1 := (cells_heap hC1).2.1); (try have hF1 := (cells_heap hC1).2.2.1); (try have hG1 := (cells_heap hC1).2.2.2.1); (try have hC2 := hS.cell (i := 2) rfl); (try have hD2 := (cells_heap hC2).1); (try have hE2 := (cells_heap hC2).2.1); (try have hF2 := (cells_heap hC2).2.2.1); (try have hG2 := (cells_heap hC2).2.2.2.1); (try have hC3 := hS.cell (i := 3) rfl); (try have hD3 := (cells_heap hC3).1); (try have hE3 := (cells_heap hC3).2.1); (try have hF3 := (cells_heap hC3).2.2.1); (try have hG3 := (cells_heap hC3).2.2.2.1); (try have hC4 := hS.cell (i := 4) rfl); (try have hD4 := (cells_heap hC4).1); (try have hE4 := (cells_heap hC4).2.1); (try have hF4 := (cells_heap hC4).2.2.1); (try have hG4 := (cells_heap hC4).2.2.2.1); (try have hM0 := hS.map (i := 0) rfl); (try have hM1 := hS.map (i := 1) rfl); (try have hM2 := hS.map (i := 2) rfl); (try have hM3 := hS.map (i := 3) rfl); (try have hM4 := hS.map (i := 4) rfl)
  repeat' (first
    | (apply WL.nilc; exact rfl; exact rfl; exact rfl)
    | (apply FL.nilc; exact rfl; exact rfl; exact rfl)
    | (apply WL.eqNilS tOk; exact rfl; exact rfl; exact rfl; exact rfl; exact rfl; exact rfl)
    | (apply WL.neNilS tOk; exact rfl; exact rfl; exact rfl; exact rfl; exact rfl; exact rfl)
    | (apply WL.eqNil tOk; exact rfl; exact rfl; exact rfl; exact rfl; exact rfl; exact rfl)
    | (apply WL.neNil tOk; exact rfl; exact rfl; exact rfl; exact rfl; exact rfl; exact rfl)
    | (show W _ _ (.region 5 _ _) _ _ _; apply W.regionGB (.fl true 0 (.fl true 1 (.fl true 2 (.fl true 3 (.fl true 5 (.fl true 6 (.fl true 7 (.fl true 8 (.fl true 10 (.fl false 4 (.fl false 9 (.fl true 11 (.fl true 12 (.fl true 13 (.br 14 (.fl true 15 (.br 16 .done .stop)) .stop))))))))))))))) [9, 11] (none) tMix; kernel_rfl)
    | (apply FL.sliceH0 tOk; exact rfl; exact rfl; exact rfl; exact rfl; exact rfl; exact rfl; exact rfl; omega)
    | (apply FL.sliceL0 tOk; exact rfl; exact rfl; exact rfl; exact rfl; exact rfl; exact rfl; exact rfl; exact rfl; omega)
    | (apply WL.storeO tOk; exact rfl; exact rfl; exact rfl; exact rfl; assumption; (exact extA); exact rfl; exact rfl; exact rfl; exact encI_ok; assumption; exact rfl; (exact extA); intro w' hO hX' hU; (first | replace hS := Sep.updRow (i := 0) rfl hU hO (.inl rfl) hS (by (exact extA)) (by (first | exact Nat.le_refl _ | exact Below.size (by (exact extA)))) | replace hS := Sep.updRow (i := 1) rfl hU hO (.inl rfl) hS (by (exact extA)) (by (first | exact Nat.le_refl _ | exact Below.size (by (exact extA)))) | replace hS := Sep.updRow (i := 2) rfl hU hO (.inl rfl) hS (by (exact extA)) (by (first | exact Nat.le_refl _ | exact Below.size (by (exact extA)))) | replace hS := Sep.updRow (i := 3) rfl hU hO (.inl rfl) hS (by (exact extA)) (by (first | exact Nat.le_refl _ | exact Below.size (by (exact extA)))) | replace hS := Sep.updRow (i := 4) rfl hU hO (.inl rfl) hS (by (exact extA)) (by (first | exact Nat.le_refl _ | exact Below.size (by (exact extA)))) | replace hS := Sep.updRow (i := 5) rfl hU hO (.inl rfl) hS (by (exact extA)) (by (first | exact Nat.le_refl _ | exact Below.size (by (exact extA))))); (try simp only [List.set_cons_zero, List.set_cons_succ] at hS); (try have hR0 := hS.row (i := 0) rfl); (try have hR1 := hS.row (i := 1) rfl); (try have hR2 := hS.row (i := 2) rfl); (try have hR3 := hS.row (i := 3) rfl); (try have hR4 := hS.row (i := 4) rfl); (try have hC0 := hS.cell (i := 0) rfl); (try have hD0 := (cells_heap hC0).1); (try have hE0 := (cells_heap hC0).2.1); (try have hF0 := (cells_heap hC0).2.2.1); (try have hG0 := (cells_heap hC0).2.2.2.1); (try have hC1 := hS.cell (i := 1) rfl); (try have hD1 := (cells_heap hC1).1); (try have hE1 := (cells_heap hC1).2.1); (try have hF1 := (cells_heap hC1).2.2.1); (try have hG1 := (cells_heap hC1).2.2.2.1); (try have hC2 := hS.cell (i := 2) rfl); (try have hD2 := (cells_heap hC2).1); (try have hE2 := (cells_heap hC2).2.1); (try have hF2 := (cells_heap hC2).2.2.1); (try have hG2 := (cells_heap hC2).2.2.2.1); (try have hC3 := hS.cell (i := 3) rfl); (try have hD3 := (cells_heap hC3).1); (try have hE3 := (cells_heap hC3).2.1); (try have hF3 := (cells_heap hC3).2.2.1); (try have hG3 := (cells_heap hC3).2.2.2.1); (try have hC4 := hS.cell (i := 4) rfl); (try have hD4 := (cells_heap hC4).1); (try have hE4 := (cells_heap hC4).2.1); (try have hF4 := (cells_heap hC4).2.2.1); (try have hG4 := (cells_heap hC4).2.2.2.1); (try have hM0 := hS.map (i := 0) rfl); (try have hM1 := hS.map (i := 1) rfl); (try have hM2 := hS.map (i := 2) rfl); (try have hM3 := hS.map (i := 3) rfl); (try have hM4 := hS.map (i := 4) rfl))
    | (apply WL.indexO tOk; exact rfl; exact rfl; exact rfl; exact rfl; exact rfl; exact rfl; exact rfl; exact rfl; assumption; (exact extA); exact encI_ok; (first | exact rfl | (focus (simp only [List.length_set]; done)) | (focus (simp; done)) | (focus (simp [*]; done)) | omega | (focus (simp only [List.length_set]; omega))); omega; assumption; intro gb ha hc; cases ha; have hcc := hc; first | (obtain ⟨h1, h2, h3, _⟩ := hc) | (obtain ⟨h1, h2, _⟩ := hc) | (obtain ⟨h1, _⟩ := hc))
    | (apply FL.indexO tOk; exact rfl; exact rfl; exact rfl; exact rfl; exact rfl; exact rfl; exact rfl; exact rfl; assumption; (exact extA); exact encI_ok; (first | exact rfl | (focus (simp only [List.length_set]; done)) | (focus (simp; done)) | (focus (simp [*]; done)) | omega | (focus (simp only [List.length_set]; omega))); omega; assumption; intro gb ha hc; cases ha; have hcc := hc; first | (obtain ⟨h1, h2, h3, _⟩ := hc) | (obtain ⟨h1, h2, _⟩ := hc) | (obtain ⟨h1, _⟩ := hc))
    | (apply WL.storeF (w0 := w0) tOk; exact rfl; exact rfl; exact rfl; exact rfl; assumption; (exact extA); exact rfl; exact rfl; exact rfl; exact rfl; (exact extA); (first | assumption | omega); intro w' hb hX' hU; replace hS := Sep.updCell (i := 0) rfl hU hb hS (by (exact extA)) (by (first | exact Nat.le_refl _ | exact Below.size (by (exact extA)))); (try simp only [List.set_cons_zero, List.set_cons_succ] at hS); (try have hR0 := hS.row (i := 0) rfl); (try have hR1 := hS.row (i := 1) rfl); (try have hR2 := hS.row (i := 2) rfl); (try have hR3 := hS.row (i := 3) rfl); (try have hR4 := hS.row (i := 4) rfl); (try have hC0 := hS.cell (i := 0) rfl); (try have hD0 := (cells_heap hC0).1); (try have hE0 := (cells_heap hC0).2.1); (try have hF0 := (cells_heap hC0).2.2.1); (try have hG0 := (cells_heap hC0).2.2.2.1); (try have hC1 := hS.cell (i := 1) rfl); (try have hD1 := (cells_heap hC1).1); (try have hE1 := (cells_heap hC1).2.1); (try have hF1 := (cells_heap hC1).2.2.1); (try have hG1 := (cells_heap hC1).2.2.2.1); (try have hC2 := hS.cell (i := 2) rfl); (try have hD2 := (cells_heap hC2).1); (try have hE2 := (cells_heap hC2).2.1); (try have hF2 := (cells_heap hC2).2.2.1); (try have hG2 := (cells_heap hC2).2.2.2.1); (try have hC3 := hS.cell (i := 3) rfl); (try have hD3 := (cells_heap hC3).1); (try have hE3 := (cells_heap hC3).2.1); (try have hF3 := (cells_heap hC3).2.2.1); (try have hG3 := (cells_heap hC3).2.2.2.1); (try have hC4 := hS.cell (i := 4) rfl); (try have hD4 := (cells_heap hC4).1); (try have hE4 := (cells_heap hC4).2.1); (try have hF4 := (cells_heap hC4).2.2.1); (try have hG4 := (cells_heap hC4).2.2.2.1); (try have hM0 := hS.map (i := 0) rfl); (try have hM1 := hS.map (i := 1) rfl); (try have hM2 := hS.map (i := 2) rfl); (try have hM3 := hS.map (i := 3) rfl); (try have hM4 := hS.map (i := 4) rfl))
    | (show WL _ _ _ _ _ _ _; first | apply WL.nil | (apply WL.pev tOk; exact rfl; exact rfl; exact rfl) | (apply WL.load tOk; exact rfl; exact rfl; exact rfl; exact rfl; exact rfl; (first | assumption | (focus (apply Ext.cell; rotate_left; assumption; (exact extA); done)))) | (apply WL.index tOk; exact rfl; exact rfl; exact rfl; exact rfl; exact rfl; exact rfl; exact rfl; exact rfl; assumption; (exact extA); exact rfl; omega; assumption; intro b off h; have hcc := h; first | (obtain ⟨h1, h2, h3, h4, h5, h6, _⟩ := h) | (obtain ⟨h1, h2, h3, _⟩ := h) | (obtain ⟨h1, h2, _⟩ := h) | (obtain ⟨h1, _⟩ := h)) | (apply WL.add; exact rfl; exact rfl; exact rfl; exact rfl; omega) | (apply WL.sub; exact rfl; exact rfl; exact rfl; exact rfl; omega) | (apply WL.mul; exact rfl; exact rfl; exact rfl; exact rfl; omega) | (apply WL.quo; exact rfl; exact rfl; exact rfl; exact rfl; omega) | (apply WL.rem; exact rfl; exact rfl; exact rfl; exact rfl; omega) | (apply WL.loadA tOk; exact rfl; exact rfl; exact rfl; exact rfl; exact rfl; (first | assumption | (focus (apply Cells.ext; rotate_left; assumption; (exact extA); done))); exact rfl) | (apply WL.guardF; exact rfl; exact rfl) | (apply WL.gD; exact rfl; exact rfl; all_goals intro _) | (apply WL.gN; exact rfl; exact rfl; all_goals intro _) | (apply WL.gB; exact rfl; exact rfl; all_goals intro _))
    | (show SG _ _ _ _ _ _ _ _ _; first | apply SG.done | apply SG.stop | (apply SG.fl0; exact rfl) | (apply SG.fl1; exact rfl; (focus ((intro m; first | assumption | (apply Ext.at; (exact extA)) | apply But.of_at; first | exact But.upd (by assumption) | exact But.ext (by (exact extA)) | (refine But.trans ?_ (But.upd (by assumption)); exact But.ext (by (exact extA))) | exact But.at _ _ _); done))) | (apply SG.br1; exact rfl) | (apply SG.br; exact rfl))
    | (show FL _ _ _ _ _ _ _ _; first | apply FL.nilS | (apply FL.pev tOk; exact rfl; exact rfl; exact rfl) | (apply FL.loadG tOk; exact rfl; exact rfl; exact rfl; exact rfl; exact rfl; (first | assumption | (focus (apply Ext.cell; rotate_left; assumption; (exact extA); done))); (first | (focus (intro h; cases h; done)) | (focus (intro h; have h9 := hBC _ h; (try simp only at h9); omega)) | assumption | (focus (intro h; simp only [blk, Option.map_some, Option.some.injEq] at h; omega)))) | (apply FL.index tOk; exact rfl; exact rfl; exact rfl; exact rfl; exact rfl; exact rfl; exact rfl; exact rfl; assumption; (exact extA); exact rfl; omega; assumption; exact List.cons_ne_nil _ _; intro b off h hbl; have hcc := h; first | (obtain ⟨h1, h2, h3, h4, h5, h6, _⟩ := h) | (obtain ⟨h1, h2, h3, _⟩ := h) | (obtain ⟨h1, h2, _⟩ := h) | (obtain ⟨h1, _⟩ := h)) | (apply FL.add; exact rfl; exact rfl; exact rfl; exact rfl; omega) | (apply FL.sub; exact rfl; exact rfl; exact rfl; exact rfl; omega) | (apply FL.mul; exact rfl; exact rfl; exact rfl; exact rfl; omega) | (apply FL.quo; exact rfl; exact rfl; exact rfl; exact rfl; omega) | (apply FL.rem; exact rfl; exact rfl; exact rfl; exact rfl; omega) | (apply FL.loadAG tOk; exact rfl; exact rfl; exact rfl; exact rfl; exact rfl; (first | assumption | (focus (apply Cells.ext; rotate_left; assumption; (exact extA); done))); exact rfl; (first | (focus (intro h; cases h; done)) | (focus (intro h; have h9 := hBC _ h; (try simp only at h9); omega)) | assumption | (focus (intro h; simp only [blk, Option.map_some, Option.some.injEq] at h; omega)))) | (apply FL.guardF; exact rfl; exact rfl) | (apply FL.gD; exact rfl; exact rfl; all_goals intro _) | (apply FL.gN; exact rfl; exact rfl; all_goals intro _) | (apply FL.gB; exact rfl; exact rfl; all_goals intro _))
    | (show Z _ _ _ _ _; first | (apply Z.sgL; exact rfl) | (apply Z.sgE; (focus ((intro m; first | assumption | (apply Ext.at; (exact extA)) | apply But.of_at; first | exact But.upd (by assumption) | exact But.ext (by (exact extA)) | (refine But.trans ?_ (But.upd (by assumption)); exact But.ext (by (exact extA))) | exact But.at _ _ _); done))))
    | (show Z _ _ _ _ _; first | apply Z.tail | apply Z.then_normal | apply Z.block_normal | apply Z.then_exit | apply Z.block_exit | apply Z.then_ret | apply Z.block_ret | (apply Z.block_other; exact rfl))
    | (show W _ _ _ _ _ _; first | apply W.seq | apply W.region | apply W.block | apply W.skip | apply W.ret | apply W.exit | (apply W.condT; exact rfl) | (apply W.condF; exact rfl) | (apply W.condD; exact rfl; all_goals intro _) | (apply W.condN; exact rfl; all_goals intro _) | (apply W.condB; exact rfl; all_goals intro _)))
  have h2 := Own.take encI_ok (hS.row (i := 2) rfl) l
  have hS2 := Sep.re (i := 2) (p' := prow 1 encI 3 w0.heap.size tr ct ((swp t 0 l ya yb).take l)) hS rfl rfl h2
  have hH2 : HpS w0.heap.size w' gh F ((swp t 0 l ya yb).take l) (((A.set yb.toNat (0 : Int)).set ya.toNat (l : Int)).set ya.toNat (-1)) rest := HpS.mk' hA2 hZ (by rw [hL2]; rfl) (by simp) hS2
  have hdn := heap_down w' w0 gh F _ _ rest hX' hH2 hn 0 (by
    by_cases hl0 : l = 0
    · right; subst hl0; rfl
    · left; rw [hL2]; omega) hD2 (by omega)
  repeat' (first
    | (((show WL _ _ _ (⟨_, .call ⟨.value (.func 119), _, _⟩, _, _, _, _⟩ :: _) _ _ _); apply WL.call; exact rfl; exact rfl; exact rfl; exact rfl; exact hdn; rintro v' w3 ⟨rfl, t3, A3, hR3, hO3⟩))
    | (show WL _ _ _ _ _ _ _; first | apply WL.nil | (apply WL.pev tOk; exact rfl; exact rfl; exact rfl) | (apply WL.load tOk; exact rfl; exact rfl; exact rfl; exact rfl; exact rfl; (first | assumption | (focus (apply Ext.cell; rotate_left; assumption; (exact extA); done)))) | (apply WL.index tOk; exact rfl; exact rfl; exact rfl; exact rfl; exact rfl; exact rfl; exact rfl; exact rfl; assumption; (exact extA); exact rfl; omega; assumption; intro b off h; have hcc := h; first | (obtain ⟨h1, h2, h3, h4, h5, h6, _⟩ := h) | (obtain ⟨h1, h2, h3, _⟩ := h) | (obtain ⟨h1, h2, _⟩ := h) | (obtain ⟨h1, _⟩ := h)) | (apply WL.add; exact rfl; exact rfl; exact rfl; exact rfl; omega) | (apply WL.sub; exact rfl; exact rfl; exact rfl; exact rfl; omega) | (apply WL.mul; exact rfl; exact rfl; exact rfl; exact rfl; omega) | (apply WL.quo; exact rfl; exact rfl; exact rfl; exact rfl; omega) | (apply WL.rem; exact rfl; exact rfl; exact rfl; exact rfl; omega) | (apply WL.loadA tOk; exact rfl; exact rfl; exact rfl; exact rfl; exact rfl; (first | assumption | (focus (apply Cells.ext; rotate_left; assumption; (exact extA); done))); exact rfl) | (apply WL.guardF; exact rfl; exact rfl) | (apply WL.gD; exact rfl; exact rfl; all_goals intro _) | (apply WL.gN; exact rfl; exact rfl; all_goals intro _) | (apply WL.gB; exact rfl; exact rfl; all_goals intro _))
    | (show Z _ _ _ _ _; first | apply Z.tail | apply Z.then_normal | apply Z.block_normal | apply Z.then_exit | apply Z.block_exit | apply Z.then_ret | apply Z.block_ret | (apply Z.block_other; exact rfl))
    | (show W _ _ _ _ _ _; first | apply W.seq | apply W.region | apply W.block | apply W.skip | apply W.ret | apply W.exit | (apply W.condT; exact rfl) | (apply W.condF; exact rfl) | (apply W.condD; exact rfl; all_goals intro _) | (apply W.condN; exact rfl; all_goals intro _) | (apply W.condB; exact rfl; all_goals intro _)))
  exact Z.body2 Try.results84 rfl rfl fun m => ⟨rfl, t3, A3, hR3.ext.at m, hR3.hp.ext ((Ext.refl _).at m), hO3, fun x => by rw [hR3.mem x, hM2 x, hm x]⟩
theorem Sep.swap23 {B : Nat} {w : World} {p q r s : Piece} {ps : List Piece} (hS : Lt.Sep B w (p :: q :: r :: s :: ps)) : Lt.Sep B w (p :: q :: s :: r :: ps) := by
  refine hS.pick (fun i => if i = 2 then 3 else if i = 3 then 2 else i) (fun i x hx => ?_) (fun i j _ _ hij => ?_)
  · match i, hx with
    | 0, hx => exact hx
    | 1, hx => exact hx
    | 2, hx => exact hx
    | 3, hx => exact hx
    | i + 4, hx => rw [if_neg (by omega), if_neg (by omega)]; exact hx
  · show (if i = 2 then 3 else if i = 3 then 2 else i) ≠ (if j = 2 then 3 else if j = 3 then 2 else j)
    split <;> split <;> (try split) <;> (try split) <;> omega
set_option maxHeartbeats 8000000 in
theorem heap_New (n : Nat) (hn : n ≤ 1048576) (w w0 : World) (rest : List Piece) (hX : Ext w0 w) (hS : Lt.Sep w0.heap.size w rest) :
    Lt.Spec Try.prog 82 [.int .i64 n] w (fun r w' => ∃ gh F A, r = .pointer (some ⟨gh, 0, none⟩) ∧ F.length = n ∧ HpB w0 w' gh F rest [] A (fun _ => False)) := by
  have hB := hX.size
  have hn1 : ((n : Nat) : Int).toNat = n := by omega
  refine Spec.of _ Try.func82 rfl Try.ntmps82 (by kernel_rfl) rfl ?_
  repeat' (first
    | (apply WL.gT; exact rfl; exact rfl; (focus (exact dec_false (by omega); done)))
    | (apply WL.gF; exact rfl; exact rfl; (focus (exact dec_false (by omega); done)))
    | (apply W.condKT; exact rfl; (focus (exact dec_false (by omega); done)))
    | (apply W.condKF; exact rfl; (focus (exact dec_false (by omega); done)))
    | (show WL _ _ _ _ _ _ _; first | apply WL.nil | (apply WL.pev tOk; exact rfl; exact rfl; exact rfl) | (apply WL.load tOk; exact rfl; exact rfl; exact rfl; exact rfl; exact rfl; (first | assumption | (focus (apply Ext.cell; rotate_left; assumption; (exact extA); done)))) | (apply WL.index tOk; exact rfl; exact rfl; exact rfl; exact rfl; exact rfl; exact rfl; exact rfl; exact rfl; assumption; (exact extA); exact rfl; omega; assumption; intro b off h; have hcc := h; first | (obtain ⟨h1, h2, h3, h4, h5, h6, _⟩ := h) | (obtain ⟨h1, h2, h3, _⟩ := h) | (obtain ⟨h1, h2, _⟩ := h) | (obtain ⟨h1, _⟩ := h)) | (apply WL.add; exact rfl; exact rfl; exact rfl; exact rfl; omega) | (apply WL.sub; exact rfl; exact rfl; exact rfl; exact rfl; omega) | (apply WL.mul; exact rfl; exact rfl; exact rfl; exact rfl; omega) | (apply WL.quo; exact rfl; exact rfl; exact rfl; exact rfl; omega) | (apply WL.rem; exact rfl; exact rfl; exact rfl; exact rfl; omega) | (apply WL.loadA tOk; exact rfl; exact rfl; exact rfl; exact rfl; exact rfl; (first | assumption | (focus (apply Cells.ext; rotate_left; assumption; (exact extA); done))); exact rfl) | (apply WL.guardF; exact rfl; exact rfl) | (apply WL.gD; exact rfl; exact rfl; all_goals intro _) | (apply WL.gN; exact rfl; exact rfl; all_goals intro _) | (apply WL.gB; exact rfl; exact rfl; all_goals intro _))
    | (show Z _ _ _ _ _; first | apply Z.tail | apply Z.then_normal | apply Z.block_normal | apply Z.then_exit | apply Z.block_exit | apply Z.then_ret | apply Z.block_ret | (apply Z.block_other; exact rfl))
    | (show W _ _ _ _ _ _; first | apply W.seq | apply W.region | apply W.block | apply W.skip | apply W.ret | apply W.exit | (apply W.condT; exact rfl) | (apply W.condF; exact rfl) | (apply W.condD; exact rfl; all_goals intro _) | (apply W.condN; exact rfl; all_goals intro _) | (apply W.condB; exact rfl; all_goals intro _)))
  refine W.cutT (σ := Nat × Nat × Nat × World) (fun s => Lt.Sep w0.heap.size s.2.2.2 ([pcell s.1 #[.slice (some ⟨s.2.1, 0, none⟩) n n, .slice none 0 0, .slice (some ⟨s.2.2.1, 0, none⟩) n n] 143, prow 1 encF 155 w0.heap.size (some ⟨s.2.1, 0, none⟩) n (List.replicate n 0), prow 1 encI 3 w0.heap.size none 0 [], prow 1 encI 3 w0.heap.size (some ⟨s.2.2.1, 0, none⟩) n (List.replicate n 0)] ++ rest) ∧ Ext w0 s.2.2.2)
    (fun s => [(0, .int .i64 n), (3, .pointer (some ⟨s.1, 0, none⟩))]) (fun s => s.2.2.2) ?_ ?_
  · replace hS : Lt.Sep w0.heap.size w (prow 1 encI 3 w0.heap.size none 0 [] :: rest) := Sep.newRow hS (Ext.refl _) Own.nil (fun k hk => by cases hk) hB
    repeat' (first
      | (show W _ _ (.region 3 _ _) _ _ _; apply W.regionGB (.fl true 0 (.fl true 2 (.br 1 (.br 3 (.fl true 4 (.br 5 (.fl true 6 .done) .stop)) .stop) (.br 3 (.br 1 (.fl true 4 (.br 5 (.fl true 6 .done) .stop)) .stop) .stop)))) [] (none) tMix; kernel_rfl)
      | ((apply WL.make (w0 := w0) (z := (0 : Nat)) thOk; exact rfl; exact rfl; exact rfl; exact rfl; exact rfl; exact rfl; exact rfl; exact rfl; exact rfl; exact encF_ok; exact rfl; exact rfl; exact (by (exact extA)); (first | omega | (simp; omega)); intro gb w' hO hge hx; replace hS := Sep.newRow (Sep.ext hS (by (exact extA))) hx hO (fun k hk => by cases hk; exact hge) (by exact Below.size (by (exact extA)))))
      | (apply WL.make (w0 := w0) (z := (0:Int)) tOk; exact rfl; exact rfl; exact rfl; exact rfl; exact rfl; exact rfl; exact rfl; exact rfl; exact rfl; exact encI_ok; exact rfl; exact rfl; (exact extA); (first | omega | (simp; omega) | (simp at *; omega)); intro gb w' hO hge hx; replace hS := Sep.newRow (Sep.ext hS (by (exact extA))) hx hO (fun k hk => by cases hk; exact hge) (by (first | exact Nat.le_refl _ | exact Below.size (by (exact extA)))); (try simp only [List.set_cons_zero, List.set_cons_succ] at hS); (try have hR0 := hS.row (i := 0) rfl); (try have hR1 := hS.row (i := 1) rfl); (try have hR2 := hS.row (i := 2) rfl); (try have hR3 := hS.row (i := 3) rfl); (try have hR4 := hS.row (i := 4) rfl); (try have hC0 := hS.cell (i := 0) rfl); (try have hD0 := (cells_heap hC0).1); (try have hE0 := (cells_heap hC0).2.1); (try have hF0 := (cells_heap hC0).2.2.1); (try have hG0 := (cells_heap hC0).2.2.2.1); (try have hC1 := hS.cell (i := 1) rfl); (try have hD1 := (cells_heap hC1).1); (try have hE1 := (cells_heap hC1).2.1); (try have hF1 := (cells_heap hC1).2.2.1); (try have hG1 := (cells_heap hC1).2.2.2.1); (try have hC2 := hS.cell (i := 2) rfl); (try have hD2 := (cells_heap hC2).1); (try have hE2 := (cells_heap hC2).2.1); (try have hF2 := (cells_heap hC2).2.2.1); (try have hG2 := (cells_heap hC2).2.2.2.1); (try have hC3 := hS.cell (i := 3) rfl); (try have hD3 := (cells_heap hC3).1); (try have hE3 := (cells_heap hC3).2.1); (try have hF3 := (cells_heap hC3).2.2.1); (try have hG3 := (cells_heap hC3).2.2.2.1); (try have hC4 := hS.cell (i := 4) rfl); (try have hD4 := (cells_heap hC4).1); (try have hE4 := (cells_heap hC4).2.1); (try have hF4 := (cells_heap hC4).2.2.1); (try have hG4 := (cells_heap hC4).2.2.2.1); (try have hM0 := hS.map (i := 0) rfl); (try have hM1 := hS.map (i := 1) rfl); (try have hM2 := hS.map (i := 2) rfl); (try have hM3 := hS.map (i := 3) rfl); (try have hM4 := hS.map (i := 4) rfl))
      | (apply WL.build tOk; exact rfl; exact rfl; exact rfl; exact rfl; exact rfl; exact rfl; exact rfl; kernel_rfl)
      | (apply FL.build tOk; exact rfl; exact rfl; exact rfl; exact rfl; exact rfl; exact rfl; exact rfl; kernel_rfl)
      | (apply WL.box; exact rfl; exact rfl; exact rfl; intro gb w' hb hge hc hx; have hcc := hc; (first | (obtain ⟨h1, h2, h3, _⟩ := hc) | (obtain ⟨h1, h2, _⟩ := hc)); replace hS := Sep.newCell (Sep.ext hS (by (exact extA))) hx hb hge (by (first | exact Nat.le_refl _ | exact Below.size (by (exact extA)))); (try simp only [List.set_cons_zero, List.set_cons_succ] at hS); (try have hR0 := hS.row (i := 0) rfl); (try have hR1 := hS.row (i := 1) rfl); (try have hR2 := hS.row (i := 2) rfl); (try have hR3 := hS.row (i := 3) rfl); (try have hR4 := hS.row (i := 4) rfl); (try have hC0 := hS.cell (i := 0) rfl); (try have hD0 := (cells_heap hC0).1); (try have hE0 := (cells_heap hC0).2.1); (try have hF0 := (cells_heap hC0).2.2.1); (try have hG0 := (cells_heap hC0).2.2.2.1); (try have hC1 := hS.cell (i := 1) rfl); (try have hD1 := (cells_heap hC1).1); (try have hE1 := (cells_heap hC1).2.1); (try have hF1 := (cells_heap hC1).2.2.1); (try have hG1 := (cells_heap hC1).2.2.2.1); (try have hC2 := hS.cell (i := 2) rfl); (try have hD2 := (cells_heap hC2).1); (try have hE2 := (cells_heap hC2).2.1); (try have hF2 := (cells_heap hC2).2.2.1); (try have hG2 := (cells_heap hC2).2.2.2.1); (try have hC3 := hS.cell (i := 3) rfl); (try have hD3 := (cells_heap hC3).1); (try have hE3 := (cells_heap hC3).2.1); (try have hF3 := (cells_heap hC3).2.2.1); (try have hG3 := (cells_heap hC3).2.2.2.1); (try have hC4 := hS.cell (i := 4) rfl); (try have hD4 := (cells_heap hC4).1); (try have hE4 := (cells_heap hC4).2.1); (try have hF4 := (cells_heap hC4).2.2.1); (try have hG4 := (cells_heap hC4).2.2.2.1); (try have hM0 := hS.map (i := 0) rfl); (try have hM1 := hS.map (i := 1) rfl); (try have hM2 := hS.map (i := 2) rfl); (try have hM3 := hS.map (i := 3) rfl); (try have hM4 := hS.map (i := 4) rfl))
      | (show WL _ _ _ _ _ _ _; first | apply WL.nil | (apply WL.pev tOk; exact rfl; exact rfl; exact rfl) | (apply WL.load tOk; exact rfl; exact rfl; exact rfl; exact rfl; exact rfl; (first | assumption | (focus (apply Ext.cell; rotate_left; assumption; (exact extA); done)))) | (apply WL.index tOk; exact rfl; exact rfl; exact rfl; exact rfl; exact rfl; exact rfl; exact rfl; exact rfl; assumption; (exact extA); exact rfl; omega; assumption; intro b off h; have hcc := h; first | (obtain ⟨h1, h2, h3, h4, h5, h6, _⟩ := h) | (obtain ⟨h1, h2, h3, _⟩ := h) | (obtain ⟨h1, h2, _⟩ := h) | (obtain ⟨h1, _⟩ := h)) | (apply WL.add; exact rfl; exact rfl; exact rfl; exact rfl; omega) | (apply WL.sub; exact rfl; exact rfl; exact rfl; exact rfl; omega) | (apply WL.mul; exact rfl; exact rfl; exact rfl; exact rfl; omega) | (apply WL.quo; exact rfl; exact rfl; exact rfl; exact rfl; omega) | (apply WL.rem; exact rfl; exact rfl; exact rfl; exact rfl; omega) | (apply WL.loadA tOk; exact rfl; exact rfl; exact rfl; exact rfl; exact rfl; (first | assumption | (focus (apply Cells.ext; rotate_left; assumption; (exact extA); done))); exact rfl) | (apply WL.guardF; exact rfl; exact rfl) | (apply WL.gD; exact rfl; exact rfl; all_goals intro _) | (apply WL.gN; exact rfl; exact rfl; all_goals intro _) | (apply WL.gB; exact rfl; exact rfl; all_goals intro _))
      | (show SG _ _ _ _ _ _ _ _ _; first | apply SG.done | apply SG.stop | (apply SG.fl0; exact rfl) | (apply SG.fl1; exact rfl; (focus ((intro m; first | assumption | (apply Ext.at; (exact extA)) | apply But.of_at; first | exact But.upd (by assumption) | exact But.ext (by (exact extA)) | (refine But.trans ?_ (But.upd (by assumption)); exact But.ext (by (exact extA))) | exact But.at _ _ _); done))) | (apply SG.br1; exact rfl) | (apply SG.br; exact rfl))
      | (show FL _ _ _ _ _ _ _ _; first | apply FL.nilS | (apply FL.pev tOk; exact rfl; exact rfl; exact rfl) | (apply FL.loadG tOk; exact rfl; exact rfl; exact rfl; exact rfl; exact rfl; (first | assumption | (focus (apply Ext.cell; rotate_left; assumption; (exact extA); done))); (first | (focus (intro h; cases h; done)) | (focus (intro h; have h9 := hBC _ h; (try simp only at h9); omega)) | assumption | (focus (intro h; simp only [blk, Option.map_some, Option.some.injEq] at h; omega)))) | (apply FL.index tOk; exact rfl; exact rfl; exact rfl; exact rfl; exact rfl; exact rfl; exact rfl; exact rfl; assumption; (exact extA); exact rfl; omega; assumption; exact List.cons_ne_nil _ _; intro b off h hbl; have hcc := h; first | (obtain ⟨h1, h2, h3, h4, h5, h6, _⟩ := h) | (obtain ⟨h1, h2, h3, _⟩ := h) | (obtain ⟨h1, h2, _⟩ := h) | (obtain ⟨h1, _⟩ := h)) | (apply FL.add; exact rfl; exact rfl; exact rfl; exact rfl; omega) | (apply FL.sub; exact rfl; exact rfl; exact rfl; exact rfl; omega) | (apply FL.mul; exact rfl; exact rfl; exact rfl; exact rfl; omega) | (apply FL.quo; exact rfl; exact rfl; exact rfl; exact rfl; omega) | (apply FL.rem; exact rfl; exact rfl; exact rfl; exact rfl; omega) | (apply FL.loadAG tOk; exact rfl; exact rfl; exact rfl; exact rfl; exact rfl; (first | assumption | (focus (apply Cells.ext; rotate_left; assumption; (exact extA); done))); exact rfl; (first | (focus (intro h; cases h; done)) | (focus (intro h; have h9 := hBC _ h; (try simp only at h9); omega)) | assumption | (focus (intro h; simp only [blk, Option.map_some, Option.some.injEq] at h; omega)))) | (apply FL.guardF; exact rfl; exact rfl) | (apply FL.gD; exact rfl; exact rfl; all_goals intro _) | (apply FL.gN; exact rfl; exact rfl; all_goals intro _) | (apply FL.gB; exact rfl; exact rfl; all_goals intro _))
      | (show Z _ _ _ _ _; first | (apply Z.sgL; exact rfl) | (apply Z.sgE; (focus ((intro m; first | assumption | (apply Ext.at; (exact extA)) | apply But.of_at; first | exact But.upd (by assumption) | exact But.ext (by (exact extA)) | (refine But.trans ?_ (But.upd (by assumption)); exact But.ext (by (exact extA))) | exact But.at _ _ _); done))))
      | (show Z _ _ _ _ _; first | apply Z.tail | apply Z.then_normal | apply Z.block_normal | apply Z.then_exit | apply Z.block_exit | apply Z.then_ret | apply Z.block_ret | (apply Z.block_other; exact rfl))
      | (show W _ _ _ _ _ _; first | apply W.seq | apply W.region | apply W.block | apply W.skip | apply W.ret | apply W.exit | (apply W.condT; exact rfl) | (apply W.condF; exact rfl) | (apply W.condD; exact rfl; all_goals intro _) | (apply W.condN; exact rfl; all_goals intro _) | (apply W.condB; exact rfl; all_goals intro _)))
    all_goals (rw [hn1] at hS; simp only [List.length_replicate] at hS)
    · exact Z.cut (_, _, _, _) ⟨Sep.swap23 (Sep.swap12 hS), (by (exact extA))⟩ ⟨rfl, rfl, trivial⟩ rfl
    · exact Z.cut (_, _, _, _) ⟨Sep.swap23 hS, (by (exact extA))⟩ ⟨rfl, rfl, trivial⟩ rfl
  · rintro ⟨gh, gf, ga, w1⟩ ⟨hS, hx1⟩
    simp only at hx1 hS ⊢
    (try simp only [List.set_cons_zero, List.set_cons_succ] at hS); (try have hR0 := hS.row (i := 0) rfl); (try have hR1 := hS.row (i := 1) rfl); (try have hR2 := hS.row (i := 2) rfl); (try have hR3 := hS.row (i := 3) rfl); (try have hR4 := hS.row (i := 4) rfl); (try have hC0 := hS.cell (i := 0) rfl); (try have hD0 := (cells_heap hC0).1); (try have hE0 := (cells_heap hC0).2.1); (try have hF0 := (cells_heap hC0).2.2.1); (try have hG0 := (cells_heap hC0).2.2.2.1); (try have hC1 := hS.cell (i := 1) rfl); (try have hD1 := (cells_heap hC1).1); (try have hE1 := (cells_heap hC1).2.1); (try have hF1 := (cells_heap hC1).2.2.1); (try have hG1 := (cells_heap hC1).2.2.2.1); (try have hC2 := hS.cell (i := 2) rfl); (try have hD2 := (cells_heap hC2).1); (try have hE2 := (cells_heap hC2).2.1); (try have hF2 := (cells_heap hC2).2.2.1); (try have hG2 := (cells_heap hC2).2.2.2.1); (try have hC3 := hS.cell (i := 3) rfl); (try have hD3 := (cells_heap hC3).1); (try have hE3 := (cells_heap hC3).2.1); (try have hF3 := (cells_heap hC3).2.2.1); (try have hG3 := (cells_heap hC3).2.2.2.1); (try have hC4 := hS.cell (i := 4) rfl); (try have hD4 := (cells_heap hC4).1); (try have hE4 := (cells_heap hC4).2.1); (try have hF4 := (cells_heap hC4).2.2.1); (try have hG4 := (cells_heap hC4).2.2.2.1); (try have hM0 := hS.map (i := 0) rfl); (try have hM1 := hS.map (i := 1) rfl); (try have hM2 := hS.map (i := 2) rfl); (try have hM3 := hS.map (i := 3) rfl); (try have hM4 := hS.map (i := 4) rfl)
    repeat' (first
      | (apply WL.nilc; exact rfl; exact rfl; exact rfl)
      | (apply WL.eqNilS tOk; exact rfl; exact rfl; exact rfl; exact rfl; exact rfl; exact rfl)
      | (apply WL.neNilS tOk; exact rfl; exact rfl; exact rfl; exact rfl; exact rfl; exact rfl)
      | (apply WL.eqNil tOk; exact rfl; exact rfl; exact rfl; exact rfl; exact rfl; exact rfl)
      | (apply WL.neNil tOk; exact rfl; exact rfl; exact rfl; exact rfl; exact rfl; exact rfl)
      | (show WL _ _ _ _ _ _ _; first | apply WL.nil | (apply WL.pev tOk; exact rfl; exact rfl; exact rfl) | (apply WL.load tOk; exact rfl; exact rfl; exact rfl; exact rfl; exact rfl; (first | assumption | (focus (apply Ext.cell; rotate_left; assumption; (exact extA); done)))) | (apply WL.index tOk; exact rfl; exact rfl; exact rfl; exact rfl; exact rfl; exact rfl; exact rfl; exact rfl; assumption; (exact extA); exact rfl; omega; assumption; intro b off h; have hcc := h; first | (obtain ⟨h1, h2, h3, h4, h5, h6, _⟩ := h) | (obtain ⟨h1, h2, h3, _⟩ := h) | (obtain ⟨h1, h2, _⟩ := h) | (obtain ⟨h1, _⟩ := h)) | (apply WL.add; exact rfl; exact rfl; exact rfl; exact rfl; omega) | (apply WL.sub; exact rfl; exact rfl; exact rfl; exact rfl; omega) | (apply WL.mul; exact rfl; exact rfl; exact rfl; exact rfl; omega) | (apply WL.quo; exact rfl; exact rfl; exact rfl; exact rfl; omega) | (apply WL.rem; exact rfl; exact rfl; exact rfl; exact rfl; omega) | (apply WL.loadA tOk; exact rfl; exact rfl; exact rfl; exact rfl; exact rfl; (first | assumption | (focus (apply Cells.ext; rotate_left; assumption; (exact extA); done))); exact rfl) | (apply WL.guardF; exact rfl; exact rfl) | (apply WL.gD; exact rfl; exact rfl; all_goals intro _) | (apply WL.gN; exact rfl; exact rfl; all_goals intro _) | (apply WL.gB; exact rfl; exact rfl; all_goals intro _))
      | (show Z _ _ _ _ _; first | apply Z.tail | apply Z.then_normal | apply Z.block_normal | apply Z.then_exit | apply Z.block_exit | apply Z.then_ret | apply Z.block_ret | (apply Z.block_other; exact rfl))
      | (show W _ _ _ _ _ _; first | apply W.seq | apply W.region | apply W.block | apply W.skip | apply W.ret | apply W.exit | (apply W.condT; exact rfl) | (apply W.condF; exact rfl) | (apply W.condD; exact rfl; all_goals intro _) | (apply W.condN; exact rfl; all_goals intro _) | (apply W.condB; exact rfl; all_goals intro _)))
    refine W.loopW n (fun k w' => k ≤ n ∧ Ext w0 w' ∧ ∃ A : List Int, A.length = n ∧ (∀ u : Nat, u < k → A[u]? = some (-1)) ∧ Lt.Sep w0.heap.size w' ([pcell gh #[.slice (some ⟨gf, 0, none⟩) n n, .slice none 0 0, .slice (some ⟨ga, 0, none⟩) n n] 143, prow 1 encF 155 w0.heap.size (some ⟨gf, 0, none⟩) n (List.replicate n 0), prow 1 encI 3 w0.heap.size none 0 [], prow 1 encI 3 w0.heap.size (some ⟨ga, 0, none⟩) n A] ++ rest))
      (fun k => [(0, .int .i64 n), (3, .pointer (some ⟨gh, 0, none⟩)), (21, .int .i64 n), (22, .int .i64 k)]) ⟨Nat.zero_le _, hx1, List.replicate n 0, by simp, fun u hu => absurd hu (Nat.not_lt_zero _), hS⟩ (fun k w' h => h.1) ⟨rfl, rfl, rfl, rfl, trivial⟩ ?_
    clear hS
    rintro k w' ⟨hk, hx', A, hAl, hAk, hS⟩
    (try simp only [List.set_cons_zero, List.set_cons_succ] at hS); (try have hR0 := hS.row (i := 0) rfl); (try have hR1 := hS.row (i := 1) rfl); (try have hR2 := hS.row (i := 2) rfl); (try have hR3 := hS.row (i := 3) rfl); (try have hR4 := hS.row (i := 4) rfl); (try have hC0 := hS.cell (i := 0) rfl); (try have hD0 := (cells_heap hC0).1); (try have hE0 := (cells_heap hC0).2.1); (try have hF0 := (cells_heap hC0).2.2.1); (try have hG0 := (cells_heap hC0).2.2.2.1); (try have hC1 := hS.cell (i := 1) rfl); (try have hD1 := (cells_heap hC1).1); (try have hE1 := (cells_heap hC1).2.1); (try have hF1 := (cells_heap hC1).2.2.1); (try have hG1 := (cells_heap hC1).2.2.2.1); (try have hC2 := hS.cell (i := 2) rfl); (try have hD2 := (cells_heap hC2).1); (try have hE2 := (cells_heap hC2).2.1); (try have hF2 := (cells_heap hC2).2.2.1); (try have hG2 := (cells_heap hC2).2.2.2.1); (try have hC3 := hS.cell (i := 3) rfl); (try have hD3 := (cells_heap hC3).1); (try have hE3 := (cells_heap hC3).2.1); (try have hF3 := (cells_heap hC3).2.2.1); (try have hG3 := (cells_heap hC3).2.2.2.1); (try have hC4 := hS.cell (i := 4) rfl); (try have hD4 := (cells_heap hC4).1); (try have hE4 := (cells_heap hC4).2.1); (try have hF4 := (cells_heap hC4).2.2.1); (try have hG4 := (cells_heap hC4).2.2.2.1); (try have hM0 := hS.map (i := 0) rfl); (try have hM1 := hS.map (i := 1) rfl); (try have hM2 := hS.map (i := 2) rfl); (try have hM3 := hS.map (i := 3) rfl); (try have hM4 := hS.map (i := 4) rfl)
    by_cases hlt : k < n
    · obtain ⟨z, hz⟩ := getI A (show ((k : Nat) : Int).toNat < A.length by omega)
      repeat' (first
        | (apply WL.gT; exact rfl; exact rfl; (focus (exact dec_true (by omega); done)))
        | (apply WL.gF; exact rfl; exact rfl; (focus (exact dec_true (by omega); done)))
        | (apply W.condKT; exact rfl; (focus (exact dec_true (by omega); done)))
        | (apply W.condKF; exact rfl; (focus (exact dec_true (by omega); done)))
        | (apply WL.nilc; exact rfl; exact rfl; exact rfl)
        | (apply WL.eqNilS tOk; exact rfl; exact rfl; exact rfl; exact rfl; exact rfl; exact rfl)
        | (apply WL.neNilS tOk; exact rfl; exact rfl; exact rfl; exact rfl; exact rfl; exact rfl)
        | (apply WL.eqNil tOk; exact rfl; exact rfl; exact rfl; exact rfl; exact rfl; exact rfl)
        | (apply WL.neNil tOk; exact rfl; exact rfl; exact rfl; exact rfl; exact rfl; exact rfl)
        | (apply WL.storeO tOk; exact rfl; exact rfl; exact rfl; exact rfl; assumption; (exact extA); exact rfl; exact rfl; exact rfl; exact encI_ok; assumption; exact rfl; (exact extA); intro w' hO hX' hU; (first | replace hS := Sep.updRow (i := 0) rfl hU hO (.inl rfl) hS (by (exact extA)) (by (first | exact Nat.le_refl _ | exact Below.size (by (exact extA)))) | replace hS := Sep.updRow (i := 1) rfl hU hO (.inl rfl) hS (by (exact extA)) (by (first | exact Nat.le_refl _ | exact Below.size (by (exact extA)))) | replace hS := Sep.updRow (i := 2) rfl hU hO (.inl rfl) hS (by (exact extA)) (by (first | exact Nat.le_refl _ | exact Below.size (by (exact extA)))) | replace hS := Sep.updRow (i := 3) rfl hU hO (.inl rfl) hS (by (exact extA)) (by (first | exact Nat.le_refl _ | exact Below.size (by (exact extA)))) | replace hS := Sep.updRow (i := 4) rfl hU hO (.inl rfl) hS (by (exact extA)) (by (first | exact Nat.le_refl _ | exact Below.size (by (exact extA)))) | replace hS := Sep.updRow (i := 5) rfl hU hO (.inl rfl) hS (by (exact extA)) (by (first | exact Nat.le_refl _ | exact Below.size (by (exact extA))))); (try simp only [List.set_cons_zero, List.set_cons_succ] at hS); (try have hR0 := hS.row (i := 0) rfl); (try have hR1 := hS.row (i := 1) rfl); (try have hR2 := hS.row (i := 2) rfl); (try have hR3 := hS.row (i := 3) rfl); (try have hR4 := hS.row (i := 4) rfl); (try have hC0 := hS.cell (i := 0) rfl); (try have hD0 := (cells_heap hC0).1); (try have hE0 := (cells_heap hC0).2.1); (try have hF0 := (cells_heap hC0).2.2.1); (try have hG0 := (cells_heap hC0).2.2.2.1); (try have hC1 := hS.cell (i := 1) rfl); (try have hD1 := (cells_heap hC1).1); (try have hE1 := (cells_heap hC1).2.1); (try have hF1 := (cells_heap hC1).2.2.1); (try have hG1 := (cells_heap hC1).2.2.2.1); (try have hC2 := hS.cell (i := 2) rfl); (try have hD2 := (cells_heap hC2).1); (try have hE2 := (cells_heap hC2).2.1); (try have hF2 := (cells_heap hC2).2.2.1); (try have hG2 := (cells_heap hC2).2.2.2.1); (try have hC3 := hS.cell (i := 3) rfl); (try have hD3 := (cells_heap hC3).1); (try have hE3 := (cells_heap hC3).2.1); (try have hF3 := (cells_heap hC3).2.2.1); (try have hG3 := (cells_heap hC3).2.2.2.1); (try have hC4 := hS.cell (i := 4) rfl); (try have hD4 := (cells_heap hC4).1); (try have hE4 := (cells_heap hC4).2.1); (try have hF4 := (cells_heap hC4).2.2.1); (try have hG4 := (cells_heap hC4).2.2.2.1); (try have hM0 := hS.map (i := 0) rfl); (try have hM1 := hS.map (i := 1) rfl); (try have hM2 := hS.map (i := 2) rfl); (try have hM3 := hS.map (i := 3) rfl); (try have hM4 := hS.map (i := 4) rfl))
        | (apply WL.indexO tOk; exact rfl; exact rfl; exact rfl; exact rfl; exact rfl; exact rfl; exact rfl; exact rfl; assumption; (exact extA); exact encI_ok; (first | exact rfl | (focus (simp only [List.length_set]; done)) | (focus (simp; done)) | (focus (simp [*]; done)) | omega | (focus (simp only [List.length_set]; omega))); omega; assumption; intro gb ha hc; cases ha; have hcc := hc; first | (obtain ⟨h1, h2, h3, _⟩ := hc) | (obtain ⟨h1, h2, _⟩ := hc) | (obtain ⟨h1, _⟩ := hc))
        | (show WL _ _ _ _ _ _ _; first | apply WL.nil | (apply WL.pev tOk; exact rfl; exact rfl; exact rfl) | (apply WL.load tOk; exact rfl; exact rfl; exact rfl; exact rfl; exact rfl; (first | assumption | (focus (apply Ext.cell; rotate_left; assumption; (exact extA); done)))) | (apply WL.index tOk; exact rfl; exact rfl; exact rfl; exact rfl; exact rfl; exact rfl; exact rfl; exact rfl; assumption; (exact extA); exact rfl; omega; assumption; intro b off h; have hcc := h; first | (obtain ⟨h1, h2, h3, h4, h5, h6, _⟩ := h) | (obtain ⟨h1, h2, h3, _⟩ := h) | (obtain ⟨h1, h2, _⟩ := h) | (obtain ⟨h1, _⟩ := h)) | (apply WL.add; exact rfl; exact rfl; exact rfl; exact rfl; omega) | (apply WL.sub; exact rfl; exact rfl; exact rfl; exact rfl; omega) | (apply WL.mul; exact rfl; exact rfl; exact rfl; exact rfl; omega) | (apply WL.quo; exact rfl; exact rfl; exact rfl; exact rfl; omega) | (apply WL.rem; exact rfl; exact rfl; exact rfl; exact rfl; omega) | (apply WL.loadA tOk; exact rfl; exact rfl; exact rfl; exact rfl; exact rfl; (first | assumption | (focus (apply Cells.ext; rotate_left; assumption; (exact extA); done))); exact rfl) | (apply WL.guardF; exact rfl; exact rfl) | (apply WL.gD; exact rfl; exact rfl; all_goals intro _) | (apply WL.gN; exact rfl; exact rfl; all_goals intro _) | (apply WL.gB; exact rfl; exact rfl; all_goals intro _))
        | (show Z _ _ _ _ _; first | apply Z.tail | apply Z.then_normal | apply Z.block_normal | apply Z.then_exit | apply Z.block_exit | apply Z.then_ret | apply Z.block_ret | (apply Z.block_other; exact rfl))
        | (show W _ _ _ _ _ _; first | apply W.seq | apply W.region | apply W.block | apply W.skip | apply W.ret | apply W.exit | (apply W.condT; exact rfl) | (apply W.condF; exact rfl) | (apply W.condD; exact rfl; all_goals intro _) | (apply W.condN; exact rfl; all_goals intro _) | (apply W.condB; exact rfl; all_goals intro _)))
      refine Z.againW ⟨by omega, hX', _, by rw [List.length_set]; exact hAl, fun u hu => ?_, hS⟩ ⟨rfl, rfl, rfl, rfl, trivial⟩
      rw [List.getElem?_set]
      split
      · rw [if_pos (by omega)]
      · exact hAk u (by omega)
    · obtain rfl : k = n := by omega
      repeat' (first
        | (apply WL.gT; exact rfl; exact rfl; (focus (exact dec_false (by omega); done)))
        | (apply WL.gF; exact rfl; exact rfl; (focus (exact dec_false (by omega); done)))
        | (apply W.condKT; exact rfl; (focus (exact dec_false (by omega); done)))
        | (apply W.condKF; exact rfl; (focus (exact dec_false (by omega); done)))
        | (apply WL.nilc; exact rfl; exact rfl; exact rfl)
        | (apply WL.eqNilS tOk; exact rfl; exact rfl; exact rfl; exact rfl; exact rfl; exact rfl)
        | (apply WL.neNilS tOk; exact rfl; exact rfl; exact rfl; exact rfl; exact rfl; exact rfl)
        | (apply WL.eqNil tOk; exact rfl; exact rfl; exact rfl; exact rfl; exact rfl; exact rfl)
        | (apply WL.neNil tOk; exact rfl; exact rfl; exact rfl; exact rfl; exact rfl; exact rfl)
        | (show WL _ _ _ _ _ _ _; first | apply WL.nil | (apply WL.pev tOk; exact rfl; exact rfl; exact rfl) | (apply WL.load tOk; exact rfl; exact rfl; exact rfl; exact rfl; exact rfl; (first | assumption | (focus (apply Ext.cell; rotate_left; assumption; (exact extA); done)))) | (apply WL.index tOk; exact rfl; exact rfl; exact rfl; exact rfl; exact rfl; exact rfl; exact rfl; exact rfl; assumption; (exact extA); exact rfl; omega; assumption; intro b off h; have hcc := h; first | (obtain ⟨h1, h2, h3, h4, h5, h6, _⟩ := h) | (obtain ⟨h1, h2, h3, _⟩ := h) | (obtain ⟨h1, h2, _⟩ := h) | (obtain ⟨h1, _⟩ := h)) | (apply WL.add; exact rfl; exact rfl; exact rfl; exact rfl; omega) | (apply WL.sub; exact rfl; exact rfl; exact rfl; exact rfl; omega) | (apply WL.mul; exact rfl; exact rfl; exact rfl; exact rfl; omega) | (apply WL.quo; exact rfl; exact rfl; exact rfl; exact rfl; omega) | (apply WL.rem; exact rfl; exact rfl; exact rfl; exact rfl; omega) | (apply WL.loadA tOk; exact rfl; exact rfl; exact rfl; exact rfl; exact rfl; (first | assumption | (focus (apply Cells.ext; rotate_left; assumption; (exact extA); done))); exact rfl) | (apply WL.guardF; exact rfl; exact rfl) | (apply WL.gD; exact rfl; exact rfl; all_goals intro _) | (apply WL.gN; exact rfl; exact rfl; all_goals intro _) | (apply WL.gB; exact rfl; exact rfl; all_goals intro _))
        | (show Z _ _ _ _ _; first | apply Z.tail | apply Z.then_normal | apply Z.block_normal | apply Z.then_exit | apply Z.block_exit | apply Z.then_ret | apply Z.block_ret | (apply Z.block_other; exact rfl))
        | (show W _ _ _ _ _ _; first | apply W.seq | apply W.region | apply W.block | apply W.skip | apply W.ret | apply W.exit | (apply W.condT; exact rfl) | (apply W.condF; exact rfl) | (apply W.condD; exact rfl; all_goals intro _) | (apply W.condN; exact rfl; all_goals intro _) | (apply W.condB; exact rfl; all_goals intro _)))
      refine Z.body1 Try.results82 rfl fun m => ⟨gh, List.replicate k 0, A, rfl, by simp, hx'.at m, ?_, fun j j0 jl => absurd jl (by simp), fun x => by simp⟩
      refine HpS.ext (w := w') ?_ ((Ext.refl _).at m)
      have hS2 : Lt.Sep w0.heap.size w' (hpPn w0.heap.size gh (some ⟨gf, 0, none⟩) k (List.replicate k 0) none 0 0 [] (some ⟨ga, 0, none⟩) k k A ++ rest) := by
        unfold hpPn
        rw [show (List.replicate k 0).length = k by simp]
        exact hS
      exact HpS.mk' ⟨by simp [hAl], fun i x hx => by simp at hx, fun v hv _ => hAk v (by simpa using hv)⟩ (fun x hx => (List.mem_replicate.1 hx).2) rfl hAl.symm hS2
end Go.Proofs.Ytmaekaflpbenmaa
namespace Go.Proofs.Ytmaekaflpbenmaa
open Go Go.Lt Go.RowKit
set_option linter.unusedVariables false
set_option linter.unusedSimpArgs false

theorem mget_mem {κ ν : Type} {a : κ} {v : ν} : ∀ {L : List (κ × ν)}, mget a L = some v → (a, v) ∈ L
  | [], h => by cases h
  | x :: r, h => by
    unfold mget at h
    by_cases hax : a = x.1
    · rw [dec_true hax] at h
      have h' : some x.2 = some v := h
      have := Option.some.inj h'
      subst this; subst hax; simp
    · rw [dec_false hax] at h
      exact List.mem_cons_of_mem _ (mget_mem h)
theorem mget_no {κ ν : Type} {a : κ} : ∀ {L : List (κ × ν)}, mget a L = none → ∀ v, (a, v) ∉ L
  | [], _, v => by simp
  | x :: r, h, v => by
    unfold mget at h
    by_cases hax : a = x.1
    · rw [dec_true hax] at h; cases h
    · rw [dec_false hax] at h
      intro hm
      rcases List.mem_cons.1 hm with he | hm
      · exact hax (by rw [← he])
      · exact mget_no h v hm
/-- Where the gates' variables are put together. -/
def plcM (gs : List G3) : Nat → List (Int × Int)
  | 0 => []
  | k + 1 => plcM gs k ++ (match gs[k]? with | some g => [(g.1 / 2, (k : Int))] | none => [])
theorem plcM_s {gs : List G3} {k : Nat} {g : G3} (h : gs[k]? = some g) : plcM gs (k + 1) = plcM gs k ++ [(g.1 / 2, (k : Int))] := by rw [plcM, h]
theorem mem_plcM {gs : List G3} {a v : Int} : ∀ {k : Nat}, (a, v) ∈ plcM gs k ↔ ∃ (j : Nat) (g : G3), j < k ∧ gs[j]? = some g ∧ a = g.1 / 2 ∧ v = (j : Int)
  | 0 => by simp [plcM]
  | k + 1 => by
    rw [plcM, List.mem_append, mem_plcM (k := k)]
    constructor
    · rintro (⟨j, g, h1, h2⟩ | h)
      · exact ⟨j, g, by omega, h2⟩
      · cases hg : gs[k]? with
        | none => rw [hg] at h; cases h
        | some g =>
          rw [hg] at h
          simp only [List.mem_singleton, Prod.mk.injEq] at h
          exact ⟨k, g, by omega, hg, h.1, h.2⟩
    · rintro ⟨j, g, h1, h2, h3⟩
      by_cases hj : j = k
      · subst hj; rw [h2]; right; simp only [List.mem_singleton, Prod.mk.injEq]; exact h3
      · exact .inl ⟨j, g, by omega, h2, h3⟩
theorem plcM_new {gs : List G3} (ho : Once gs) {k : Nat} {g : G3} (h : gs[k]? = some g) : mget (g.1 / 2) (plcM gs k) = none := by
  cases hm : mget (g.1 / 2) (plcM gs k) with
  | none => rfl
  | some v =>
    obtain ⟨j, x, h1, h2, h3, _⟩ := mem_plcM.1 (mget_mem hm)
    have := ho j k x g h2 h (by omega)
    omega
theorem plcM_some {gs : List G3} {l v : Int} (h : mget l (plcM gs gs.length) = some v) : ∃ (j : Nat) (g : G3), gs[j]? = some g ∧ g.1 / 2 = l ∧ v = (j : Int) := by
  obtain ⟨j, x, h1, h2, h3, h4⟩ := mem_plcM.1 (mget_mem h)
  exact ⟨j, x, h2, h3.symm, h4⟩
theorem plcM_none {gs : List G3} {l : Int} (h : mget l (plcM gs gs.length) = none) : ∀ (j : Nat) (g : G3), gs[j]? = some g → g.1 / 2 ≠ l := fun j g hg he =>
  mget_no h (j : Int) (mem_plcM.2 ⟨j, g, lt_of_get hg, hg, he.symm, rfl⟩)

abbrev nilR : RowV Int := (none, 0, [])
abbrev pI (B : Nat) (r : RowV Int) : Piece := prow 1 encI 3 B r.1 r.2.1 r.2.2
abbrev rst (B : Nat) (al : Option Addr) (cl : Nat) (lk : List Int) (ao : Option Addr) (co : Nat) (rs : List (RowV Int)) (rm : Nat) (M : List (Int × Int)) (ou : Option Addr) (cu : Nat) (out : List Int) (lit : RowV Int) (inn : List (RowV Int)) : List Piece :=
  [prow 1 encI 3 B al cl lk, prow 1 encRow 23 B ao co rs, pmap encK encK rm M, prow 1 encI 3 B ou cu out, pI B lit] ++ inn.map (pI B)
section
variable {B : Nat} {al : Option Addr} {cl : Nat} {lk : List Int} {ao : Option Addr} {co : Nat} {rs : List (RowV Int)} {rm : Nat} {M : List (Int × Int)} {ou : Option Addr} {cu : Nat} {out : List Int} {lit : RowV Int} {inn : List (RowV Int)} {k : Nat} {r : RowV Int}
theorem rst_in (h : inn[k]? = some r) (q : List Piece) (hq : q.length = 4) : (q ++ rst B al cl lk ao co rs rm M ou cu out lit inn)[9 + k]? = some (pI B r) := by
  rw [List.getElem?_append_right (by omega), show 9 + k - q.length = 5 + k by omega]
  show (_ :: _ :: _ :: _ :: _ :: inn.map (pI B))[5 + k]? = _
  rw [show 5 + k = k + 1 + 1 + 1 + 1 + 1 by omega]
  simp only [List.getElem?_cons_succ, List.getElem?_map, h, Option.map_some]
theorem rst_set (q : List Piece) (hq : q.length = 4) : (q ++ rst B al cl lk ao co rs rm M ou cu out lit inn).set (9 + k) (pI B r) = q ++ rst B al cl lk ao co rs rm M ou cu out lit (inn.set k r) := by
  rw [List.set_append_right _ _ (by omega), show 9 + k - q.length = k + 1 + 1 + 1 + 1 + 1 by omega]
  congr 1
  show (_ :: _ :: _ :: _ :: _ :: inn.map (pI B)).set _ _ = _
  simp only [List.set_cons_succ, ← List.map_set]
  rfl
end
theorem Sep.addNils {B : Nat} {w : World} {ps : List Piece} (hS : Lt.Sep B w ps) (n : Nat) : Lt.Sep B w (ps ++ (List.replicate n ((none, 0, []) : RowV Int)).map (pI B)) := by
  have key : ∀ (i : Nat) (p : Piece), (ps ++ (List.replicate n ((none, 0, []) : RowV Int)).map (pI B))[i]? = some p → ps[i]? = some p ∨ p = pI B (none, 0, []) := fun i p h => by
    rcases get_app h with h | ⟨_, h⟩
    · exact .inl h
    · rw [List.getElem?_map, List.getElem?_replicate] at h
      split at h
      · simp at h; exact .inr h.symm
      · cases h
  refine ⟨fun i p h => ?_, fun i j p q h1 h2 hne => ?_⟩
  · rcases key i p h with h | rfl
    · exact hS.holds i p h
    · exact ⟨Own.nil, fun k hk => by cases hk⟩
  · rcases key i p h1 with k1 | rfl
    · rcases key j q h2 with k2 | rfl
      · exact hS.apart i j p q k1 k2 hne
      · cases hb : p.b with
        | none => exact .inl rfl
        | some k => exact .inr (by simp [prow, blk])
    · exact .inl rfl
theorem HpB.mono {w0 w : World} {gh : Nat} {F : List Nat} {rest : List Piece} {t A : List Int} {p q : Int → Prop} (h : HpB w0 w gh F rest t A p) (k : ∀ x, p x ↔ q x) : HpB w0 w gh F rest t A q := ⟨h.ext, h.hp, h.ho, fun x => (h.mem x).trans (k x)⟩
theorem HpB.up {w0 w w' : World} {gh : Nat} {F : List Nat} {rest : List Piece} {t A : List Int} {p : Int → Prop} (h : HpB w0 w gh F rest t A p) (hx : Ext w w') : HpB w0 w' gh F rest t A p := ⟨h.ext.trans hx, h.hp.ext hx, h.ho, h.mem⟩

theorem HpB.setLit {w0 w w' : World} {gh : Nat} {F : List Nat} {t A : List Int} {p : Int → Prop} {al : Option Addr} {cl : Nat} {lk : List Int} {ao : Option Addr} {co : Nat} {rs : List (RowV Int)} {rm : Nat} {M : List (Int × Int)} {ou : Option Addr} {cu : Nat} {out : List Int} {lit : RowV Int} {inn : List (RowV Int)} {gt cap : Nat} {l : List Int}
    (h : HpB w0 w gh F (rst w0.heap.size al cl lk ao co rs rm M ou cu out lit inn) t A p) (hx : Ext w w') (hO : Own 1 encI 3 w0.heap.size w' (some ⟨gt, 0, none⟩) cap l) (hge : w.heap.size ≤ gt) : HpB w0 w' gh F (rst w0.heap.size al cl lk ao co rs rm M ou cu out (some ⟨gt, 0, none⟩, cap, l) inn) t A p := by
  obtain ⟨hX, ⟨hat, hze, as_, cs, tr, ct, ap, cp, hS⟩, hO9, hm⟩ := h
  exact ⟨hX.trans hx, ⟨hat, hze, as_, cs, tr, ct, ap, cp, hS.upd (i := 8) (p' := pI w0.heap.size (some ⟨gt, 0, none⟩, cap, l)) rfl (But.ext hx) hO (.inr ⟨gt, rfl, hge, (hO.blk_lt gt rfl).2⟩) hX.size⟩, hO9, hm⟩

theorem heap_PopO (w w0 : World) (gh : Nat) (F : List Nat) (t A : List Int) (rest : List Piece) (p : Int → Prop) (hB : HpB w0 w gh F rest t A p) (hn : F.length ≤ 1048576) :
    Lt.Spec Try.prog 84 [.pointer (some ⟨gh, 0, none⟩)] w (fun r w' => ∃ nx : Option Int, r = .tuple #[.int .i64 (nx.getD 0), .bool nx.isSome] ∧ (∀ y, nx = some y → p y ∧ ∀ x, p x → y ≤ x) ∧ (nx = none → ∀ x, ¬ p x) ∧ ∃ t' A', HpB w0 w' gh F rest t' A' (fun x => p x ∧ ∀ y, nx = some y → x ≠ y)) := by
  cases ht : t with
  | nil =>
    subst ht
    have hno : ∀ x, ¬ p x := fun x hx => by have := (hB.mem x).2 hx; cases this
    refine Spec.mono (heap_Pop0 hB) ?_
    rintro r w' ⟨rfl, m, rfl⟩
    exact ⟨none, rfl, (fun y h => by cases h), (fun _ => hno), _, _, (hB.up ((Ext.refl _).at m)).mono fun x => ⟨fun h => absurd h (hno x), fun h => h.1⟩⟩
  | cons ya tl =>
    have h0 : t[0]? = some ya := by rw [ht]; rfl
    refine Spec.mono (heap_Pop w w0 gh F t A rest p hB hn ya h0) ?_
    rintro r w' ⟨rfl, t', A', h⟩
    refine ⟨some ya, rfl, (fun y hy => ?_), (fun h => by cases h), t', A', h.mono fun x => ⟨fun hx => ⟨hx.1, fun y hy => by cases hy; exact hx.2⟩, fun hx => ⟨hx.1, hx.2 ya rfl⟩⟩⟩
    have hy' := Option.some.inj hy
    subst hy'
    refine ⟨(hB.mem ya).1 (by rw [ht]; simp), fun x hx => ?_⟩
    obtain ⟨i, hi⟩ := List.mem_iff_getElem?.1 ((hB.mem x).2 hx)
    exact hB.ho.min h0 i x hi

def litJ (g : G3) : Nat → Int
  | 0 => g.2.1
  | _ => g.2.2
noncomputable def lackJ (gs : List G3) (g : G3) : Nat → Nat
  | 0 => 0
  | j + 1 => lackJ gs g j + one (Bl gs [] (litJ g j))
theorem lackJ_s (gs : List G3) (g : G3) (j : Nat) : lackJ gs g (j + 1) = lackJ gs g j + one (Bl gs [] (litJ g j)) := rfl
noncomputable def hangsJ (g y : G3) : Nat → Nat
  | 0 => 0
  | j + 1 => hangsJ g y j + one (y.1 / 2 = litJ g j / 2)
theorem lackJ2 (gs : List G3) (g : G3) : lackJ gs g 2 = lackG gs [] g := by
  show 0 + one (Bl gs [] g.2.1) + one (Bl gs [] g.2.2) = _
  rw [Nat.zero_add]; rfl
theorem hangsJ2 (g y : G3) : hangsJ g y 2 = hangs g y := by
  show 0 + one (y.1 / 2 = g.2.1 / 2) + one (y.1 / 2 = g.2.2 / 2) = _
  rw [Nat.zero_add]; rfl
theorem lackJ_le (gs : List G3) (g : G3) : ∀ j, lackJ gs g j ≤ j
  | 0 => Nat.le_refl _
  | j + 1 => by have := lackJ_le gs g j; have := one_le (Bl gs [] (litJ g j)); unfold lackJ; omega
theorem hangsJ_le (g y : G3) : ∀ j, hangsJ g y j ≤ j
  | 0 => Nat.le_refl _
  | j + 1 => by have := hangsJ_le g y j; have := one_le (y.1 / 2 = litJ g j / 2); unfold hangsJ; omega
/-- While gate i is looked at. -/
structure StA (gs : List G3) (i : Nat) (g : G3) (j : Nat) (lk : List Int) (rs : List (RowV Int)) : Prop where
  llen : lk.length = gs.length
  old : ∀ (q : Nat) (x : G3), gs[q]? = some x → q < i → lk[q]? = some (lackG gs [] x : Int)
  now : lk[i]? = some (lackJ gs g j : Int)
  new : ∀ q : Nat, i < q → q < gs.length → lk[q]? = some 0
  rlen : rs.length = gs.length
  row : ∀ (q : Nat) (y : G3), gs[q]? = some y → ∃ r, rs[q]? = some r ∧ r.2.2 = abv gs y i ++ List.replicate (hangsJ g y j) ((i : Nat) : Int)
/-- Ahead of gate i. -/
structure StI (gs : List G3) (i : Nat) (lk : List Int) (rs : List (RowV Int)) : Prop where
  llen : lk.length = gs.length
  old : ∀ (q : Nat) (x : G3), gs[q]? = some x → q < i → lk[q]? = some (lackG gs [] x : Int)
  new : ∀ q : Nat, i ≤ q → q < gs.length → lk[q]? = some 0
  rlen : rs.length = gs.length
  row : ∀ (q : Nat) (y : G3), gs[q]? = some y → ∃ r, rs[q]? = some r ∧ r.2.2 = abv gs y i
theorem StI.first (gs : List G3) : StI gs 0 (List.replicate gs.length 0) (List.replicate gs.length (none, 0, [])) :=
  ⟨by simp, fun q x _ h => absurd h (Nat.not_lt_zero _), fun q _ h => by rw [List.getElem?_replicate, if_pos h], by simp, fun q y hy => ⟨(none, 0, []), by rw [List.getElem?_replicate, if_pos (lt_of_get hy)], rfl⟩⟩
theorem StI.enter {gs : List G3} {i : Nat} {g : G3} {lk : List Int} {rs : List (RowV Int)} (h : StI gs i lk rs) (hg : gs[i]? = some g) : StA gs i g 0 lk rs :=
  ⟨h.llen, h.old, h.new i (Nat.le_refl _) (lt_of_get hg), fun q h1 h2 => h.new q (by omega) h2, h.rlen, fun q y hy => by obtain ⟨r, h1, h2⟩ := h.row q y hy; exact ⟨r, h1, by rw [h2]; simp [hangsJ]⟩⟩
theorem StA.leave {gs : List G3} {i : Nat} {g : G3} {lk : List Int} {rs : List (RowV Int)} (h : StA gs i g 2 lk rs) (hg : gs[i]? = some g) : StI gs (i + 1) lk rs :=
  ⟨h.llen, fun q x hx hq => by
    by_cases hqi : q = i
    · subst hqi; rw [hg] at hx; cases hx; rw [h.now, lackJ2]
    · exact h.old q x hx (by omega), fun q h1 h2 => h.new q (by omega) h2, h.rlen, fun q y hy => by obtain ⟨r, h1, h2⟩ := h.row q y hy; exact ⟨r, h1, by rw [h2, hangsJ2, abv, hg]⟩⟩
theorem StA.skip {gs : List G3} {i j : Nat} {g : G3} {lk : List Int} {rs : List (RowV Int)} (h : StA gs i g j lk rs) (hn : ∀ (q : Nat) (y : G3), gs[q]? = some y → y.1 / 2 ≠ litJ g j / 2) : StA gs i g (j + 1) lk rs := by
  have e1 : one (Bl gs [] (litJ g j)) = 0 := one_no fun ⟨q, y, h1, _, h2⟩ => hn q y h1 h2
  refine ⟨h.llen, h.old, by rw [h.now, lackJ_s, e1]; rfl, h.new, h.rlen, fun q y hy => ?_⟩
  obtain ⟨r, h1, h2⟩ := h.row q y hy
  exact ⟨r, h1, by rw [h2]; conv => rhs; rw [hangsJ]
                   rw [one_no (hn q y hy)]; rfl⟩
theorem StA.take {gs : List G3} (ho : Once gs) {i j k : Nat} {g y : G3} {lk : List Int} {rs : List (RowV Int)} {r : RowV Int} {a' : Option Addr} {cap' : Nat} (h : StA gs i g j lk rs) (hy : gs[k]? = some y) (he : y.1 / 2 = litJ g j / 2) (hr : rs[k]? = some r) :
    StA gs i g (j + 1) (lk.set i ((lackJ gs g j : Int) + 1)) (rs.set k (a', cap', r.2.2 ++ [((i : Nat) : Int)])) := by
  have e1 : one (Bl gs [] (litJ g j)) = 1 := one_yes ⟨k, y, hy, by simp, he⟩
  have hil := lt_of_get h.now
  refine ⟨by simp [h.llen], fun q x hx hq => by rw [List.getElem?_set_ne (by omega)]; exact h.old q x hx hq, ?_, fun q h1 h2 => by rw [List.getElem?_set_ne (by omega)]; exact h.new q h1 h2, by simp [h.rlen], fun q z hz => ?_⟩
  · rw [List.getElem?_set_self hil, lackJ_s, e1]; rfl
  · obtain ⟨r', h1, h2⟩ := h.row q z hz
    by_cases hq : k = q
    · subst hq
      rw [hr] at h1; cases h1
      rw [hy] at hz; cases hz
      refine ⟨_, List.getElem?_set_self (lt_of_get hr), ?_⟩
      show r.2.2 ++ _ = _
      rw [h2, hangsJ, one_yes he, List.append_assoc, List.replicate_succ']
    · refine ⟨r', by rw [List.getElem?_set_ne hq]; exact h1, ?_⟩
      rw [h2, hangsJ, one_no fun hh => hq (ho k q y z hy hz (by omega))]; rfl
/-- The things in the heap: those that lack nothing. -/
def pA (i : Nat) (lk : List Int) (x : Int) : Prop := ∃ j : Nat, x = (j : Int) ∧ j < i ∧ lk[j]? = some 0
def pH (T : List Nat) (lk : List Int) (x : Int) : Prop := ∃ j : Nat, x = (j : Int) ∧ j ∉ T ∧ lk[j]? = some 0
theorem pA_set {i : Nat} {lk : List Int} {v : Int} (x : Int) : pA i (lk.set i v) x ↔ pA i lk x := by
  constructor
  · rintro ⟨j, h1, h2, h3⟩; exact ⟨j, h1, h2, by rwa [List.getElem?_set_ne (by omega)] at h3⟩
  · rintro ⟨j, h1, h2, h3⟩; exact ⟨j, h1, h2, by rwa [List.getElem?_set_ne (by omega)]⟩
theorem pA_push {i : Nat} {lk : List Int} (h : lk[i]? = some 0) (x : Int) : (pA i lk x ∨ x = (i : Int)) ↔ pA (i + 1) lk x := by
  constructor
  · rintro (⟨j, h1, h2, h3⟩ | h1)
    · exact ⟨j, h1, by omega, h3⟩
    · exact ⟨i, h1, by omega, h⟩
  · rintro ⟨j, h1, h2, h3⟩
    by_cases hj : j = i
    · subst hj; exact .inr h1
    · exact .inl ⟨j, h1, by omega, h3⟩
theorem pA_next {i : Nat} {lk : List Int} {v : Int} (h : lk[i]? = some v) (hv : v ≠ 0) (x : Int) : pA i lk x ↔ pA (i + 1) lk x := by
  constructor
  · rintro ⟨j, h1, h2, h3⟩; exact ⟨j, h1, by omega, h3⟩
  · rintro ⟨j, h1, h2, h3⟩
    by_cases hj : j = i
    · subst hj; rw [h] at h3; cases h3; exact absurd rfl hv
    · exact ⟨j, h1, by omega, h3⟩
theorem pA_all {n : Nat} {lk : List Int} (h : lk.length = n) (x : Int) : pA n lk x ↔ pH [] lk x := by
  constructor
  · rintro ⟨j, h1, h2, h3⟩; exact ⟨j, h1, by simp, h3⟩
  · rintro ⟨j, h1, h2, h3⟩; exact ⟨j, h1, by have := lt_of_get h3; omega, h3⟩
/-- While those above y are looked at: m of them. -/
structure StB (gs : List G3) (L : List Nat) (Y : List Int) (lk : List Int) : Prop where
  llen : lk.length = gs.length
  val : ∀ (q : Nat) (x : G3), gs[q]? = some x → lk[q]? = some ((lackG gs L x : Int) - (Y.count (q : Int) : Int))
theorem StB.rdy {gs : List G3} {L : List Nat} {lk : List Int} (h : StB gs L [] lk) (x : Int) : pH L lk x ↔ ∃ j : Nat, x = (j : Int) ∧ Rdy gs L j := by
  constructor
  · rintro ⟨j, h1, h2, h3⟩
    obtain ⟨g, hg⟩ := getI gs (show j < gs.length by have := lt_of_get h3; have := h.llen; omega)
    have := h.val j g hg
    rw [h3] at this
    have h4 := Option.some.inj this
    simp at h4
    exact ⟨j, h1, (rdy_lack hg).2 ⟨h2, by omega⟩⟩
  · rintro ⟨j, h1, h2⟩
    have h2' := h2
    obtain ⟨g, hg, _⟩ := h2'
    have h3 := (rdy_lack hg).1 h2
    exact ⟨j, h1, h3.1, by rw [h.val j g hg, h3.2]; simp⟩
theorem StB.next {gs : List G3} (ho : Once gs) {L : List Nat} {i : Nat} {y : G3} {lk : List Int} (hy : gs[i]? = some y) (hi : i ∉ L) (h : StB gs L (abv gs y gs.length) lk) : StB gs (L ++ [i]) [] lk := by
  refine ⟨h.llen, fun q x hx => ?_⟩
  rw [h.val q x hx, abv_count hx, if_pos (lt_of_get hx), lack_push ho hy hi x]
  simp <;> omega
/-- One is looked at: what it lacks falls by one. -/
theorem StB.step {gs : List G3} (ho : Once gs) {L : List Nat} {i k m : Nat} {y g : G3} {lk : List Int} (hy : gs[i]? = some y) (hi : i ∉ L) (hg : gs[k]? = some g) (h : StB gs L ((abv gs y gs.length).take m) lk) (hk : (abv gs y gs.length)[m]? = some (k : Int)) :
    ∃ v, lk[k]? = some v ∧ 1 ≤ v ∧ v ≤ 2 ∧ StB gs L ((abv gs y gs.length).take (m + 1)) (lk.set k (v - 1)) := by
  have h1 := h.val k g hg
  have hc := abv_count (y := y) hg gs.length
  rw [if_pos (lt_of_get hg)] at hc
  have hl := lack_push ho hy hi g
  have hle : ((abv gs y gs.length).take (m + 1)).count (k : Int) ≤ hangs g y := by
    rw [← hc]; exact (List.take_sublist _ _).count_le _
  have hs : ((abv gs y gs.length).take (m + 1)).count (k : Int) = ((abv gs y gs.length).take m).count (k : Int) + 1 := by
    rw [take_succ' hk, List.count_append]; simp
  have b1 := one_le (Bl gs L g.2.1)
  have b2 := one_le (Bl gs L g.2.2)
  have b3 : lackG gs L g = one (Bl gs L g.2.1) + one (Bl gs L g.2.2) := rfl
  refine ⟨_, h1, by omega, by omega, ⟨by simp [h.llen], fun q x hx => ?_⟩⟩
  by_cases hq : k = q
  · subst hq
    rw [hg] at hx; cases hx
    rw [List.getElem?_set_self (lt_of_get h1), hs]
    congr 1; omega
  · rw [List.getElem?_set_ne hq, h.val q x hx, take_succ' hk, List.count_append]
    have : [(k : Int)].count (q : Int) = 0 := List.count_eq_zero.2 (fun hm => hq (by have := List.mem_singleton.1 hm; omega))
    rw [this]; rfl
theorem pH_dec {T : List Nat} {lk : List Int} {k : Nat} {v : Int} (h : lk[k]? = some v) (h1 : 1 ≤ v) (hv : v - 1 ≠ 0) (x : Int) : pH T lk x ↔ pH T (lk.set k (v - 1)) x := by
  constructor
  · rintro ⟨j, a1, a2, a3⟩
    by_cases hj : k = j
    · subst hj; rw [h] at a3; cases a3; omega
    · exact ⟨j, a1, a2, by rw [List.getElem?_set_ne hj]; exact a3⟩
  · rintro ⟨j, a1, a2, a3⟩
    by_cases hj : k = j
    · subst hj; rw [List.getElem?_set_self (lt_of_get h)] at a3; have := Option.some.inj a3; omega
    · exact ⟨j, a1, a2, by rwa [List.getElem?_set_ne hj] at a3⟩
theorem pH_zero {T : List Nat} {lk : List Int} {k : Nat} {v : Int} (h : lk[k]? = some v) (h1 : 1 ≤ v) (hv : v - 1 = 0) (hk : k ∉ T) (x : Int) : (pH T lk x ∨ x = (k : Int)) ↔ pH T (lk.set k (v - 1)) x := by
  constructor
  · rintro (⟨j, a1, a2, a3⟩ | a1)
    · by_cases hj : k = j
      · subst hj; rw [h] at a3; cases a3; omega
      · exact ⟨j, a1, a2, by rw [List.getElem?_set_ne hj]; exact a3⟩
    · exact ⟨k, a1, hk, by rw [List.getElem?_set_self (lt_of_get h), hv]⟩
  · rintro ⟨j, a1, a2, a3⟩
    by_cases hj : k = j
    · subst hj; exact .inr a1
    · exact .inl ⟨j, a1, a2, by rwa [List.getElem?_set_ne hj] at a3⟩
theorem pH_no {T : List Nat} {lk : List Int} {k : Nat} {v : Int} (h : lk[k]? = some v) (h1 : 1 ≤ v) : ¬ pH T lk (k : Int) := by
  rintro ⟨j, a1, a2, a3⟩
  have : j = k := by omega
  subst this
  rw [h] at a3; cases a3; omega
theorem pH_out {L : List Nat} {i : Nat} {lk : List Int} (x : Int) : (pH L lk x ∧ x ≠ (i : Int)) ↔ pH (L ++ [i]) lk x := by
  constructor
  · rintro ⟨⟨j, a1, a2, a3⟩, hne⟩
    refine ⟨j, a1, fun hm => ?_, a3⟩
    rcases List.mem_append.1 hm with hm | hm
    · exact a2 hm
    · have := List.mem_singleton.1 hm; omega
  · rintro ⟨j, a1, a2, a3⟩
    refine ⟨⟨j, a1, fun hm => a2 (by simp [hm]), a3⟩, fun he => a2 ?_⟩
    have : j = i := by omega
    simp [this]
theorem rdy_self {gs : List G3} {L : List Nat} {i : Nat} {y : G3} (hr : Rdy gs L i) (hy : gs[i]? = some y) : hangs y y = 0 := by
  obtain ⟨g, hg, h1, h2⟩ := hr
  rw [hy] at hg; cases hg
  have := h2 i y hy h1
  unfold hangs
  rw [one_no this.1, one_no this.2]
end Go.Proofs.Ytmaekaflpbenmaa
namespace Go.Proofs.Ytmaekaflpbenmaa
open Go Go.Lt Go.RowKit
set_option linter.unusedVariables false
set_option linter.unusedSimpArgs false

set_option maxHeartbeats 32000000 in
theorem circ_Order (c : Circ) (w : World) (hG : Row 3 enc3 w c.gates.1 c.gates.2.2) (hok : gsOk c.gates.2.2) (hn : c.gates.2.2.length ≤ 1048576) (ho : Once c.gates.2.2) :
    Lt.Spec Try.prog 35 [c.val] w (IsFresh 1 encI 3 w (natI (ordL c.gates.2.2))) := by
  refine Spec.of _ Try.func35 rfl Try.ntmps35 (by kernel_rfl) rfl ?_
  repeat' (first
    | (apply WL.box; exact rfl; exact rfl; exact rfl; intro gb w' hb hge hc hx; have hcc := hc; (first | (obtain ⟨h1, h2, h3, _⟩ := hc) | (obtain ⟨h1, h2, _⟩ := hc)); (have hcells := hcc; obtain ⟨y0, y1, y2, y3, y4, y5, y6, _⟩ := hcc; obtain ⟨gc, rfl⟩ : ∃ x, x = gb := ⟨_, rfl⟩; obtain ⟨wc, rfl⟩ : ∃ x, x = w' := ⟨_, rfl⟩; obtain ⟨hxc, rfl⟩ : ∃ x, x = hx := ⟨_, rfl⟩))
    | ((apply WL.makeMap (kv := encK) (vv := encK); exact rfl; exact rfl; intro rm w1 hM1 hge1 hx1))
    | (show WL _ _ _ _ _ _ _; first | apply WL.nil | (apply WL.pev tOk; exact rfl; exact rfl; exact rfl) | (apply WL.load tOk; exact rfl; exact rfl; exact rfl; exact rfl; exact rfl; (first | assumption | (focus (apply Ext.cell; rotate_left; assumption; (exact extA); done)))) | (apply WL.index tOk; exact rfl; exact rfl; exact rfl; exact rfl; exact rfl; exact rfl; exact rfl; exact rfl; assumption; (exact extA); exact rfl; omega; assumption; intro b off h; have hcc := h; first | (obtain ⟨h1, h2, h3, h4, h5, h6, _⟩ := h) | (obtain ⟨h1, h2, h3, _⟩ := h) | (obtain ⟨h1, h2, _⟩ := h) | (obtain ⟨h1, _⟩ := h)) | (apply WL.add; exact rfl; exact rfl; exact rfl; exact rfl; omega) | (apply WL.sub; exact rfl; exact rfl; exact rfl; exact rfl; omega) | (apply WL.mul; exact rfl; exact rfl; exact rfl; exact rfl; omega) | (apply WL.quo; exact rfl; exact rfl; exact rfl; exact rfl; omega) | (apply WL.rem; exact rfl; exact rfl; exact rfl; exact rfl; omega) | (apply WL.loadA tOk; exact rfl; exact rfl; exact rfl; exact rfl; exact rfl; (first | assumption | (focus (apply Cells.ext; rotate_left; assumption; (exact extA); done))); exact rfl) | (apply WL.guardF; exact rfl; exact rfl) | (apply WL.gD; exact rfl; exact rfl; all_goals intro _) | (apply WL.gN; exact rfl; exact rfl; all_goals intro _) | (apply WL.gB; exact rfl; exact rfl; all_goals intro _))
    | (show Z _ _ _ _ _; first | apply Z.tail | apply Z.then_normal | apply Z.block_normal | apply Z.then_exit | apply Z.block_exit | apply Z.then_ret | apply Z.block_ret | (apply Z.block_other; exact rfl))
    | (show W _ _ _ _ _ _; first | apply W.seq | apply W.region | apply W.block | apply W.skip | apply W.ret | apply W.exit))
  have Rg := hG.ext hxc
  have hwc := Below.size hxc
  have hS : Lt.Sep wc.heap.size w1 [pmap encK encK rm (plcM c.gates.2.2 0)] := Sep.newMap Sep.none' hx1 hM1 hge1 (Nat.le_refl _)
  refine W.loopW c.gates.2.2.length (fun k w' => k ≤ c.gates.2.2.length ∧ Ext wc w' ∧ Lt.Sep wc.heap.size w' [pmap encK encK rm (plcM c.gates.2.2 k)]) (fun k => [(1, .pointer (some ⟨gc, 0, none⟩)), (3, .map (some rm)), (22, rowVal c.gates), (23, .int .i64 (c.gates.2.2.length : Nat)), (24, .int .i64 k)]) ⟨Nat.zero_le _, hx1, hS⟩ (fun k w' h => h.1) ⟨rfl, rfl, rfl, rfl, rfl, trivial⟩ ?_
  clear hS
  rintro k w3 ⟨hk, hX3, hS⟩
  have hM3 := hS.map (i := 0) rfl
  have hrm := (hS.lt (i := 0) rfl rfl).1
  by_cases hlt : k < c.gates.2.2.length
  · obtain ⟨g, hgg⟩ := getI c.gates.2.2 hlt
    have hgo := hok g (List.mem_of_getElem? hgg)
    have hnew := plcM_new ho hgg
    repeat' (first
      | (apply WL.gT; exact rfl; exact rfl; (focus (exact dec_true (by omega); done)))
      | (apply WL.gF; exact rfl; exact rfl; (focus (exact dec_true (by omega); done)))
      | (show WL _ _ _ _ _ _ _; first | apply WL.nil | (apply WL.pev tOk; exact rfl; exact rfl; exact rfl) | (apply WL.load tOk; exact rfl; exact rfl; exact rfl; exact rfl; exact rfl; (first | assumption | (focus (apply Ext.cell; rotate_left; assumption; (exact extA); done)))) | (apply WL.index tOk; exact rfl; exact rfl; exact rfl; exact rfl; exact rfl; exact rfl; exact rfl; exact rfl; assumption; (exact extA); exact rfl; omega; assumption; intro b off h; have hcc := h; first | (obtain ⟨h1, h2, h3, h4, h5, h6, _⟩ := h) | (obtain ⟨h1, h2, h3, _⟩ := h) | (obtain ⟨h1, h2, _⟩ := h) | (obtain ⟨h1, _⟩ := h)) | (apply WL.add; exact rfl; exact rfl; exact rfl; exact rfl; omega) | (apply WL.sub; exact rfl; exact rfl; exact rfl; exact rfl; omega) | (apply WL.mul; exact rfl; exact rfl; exact rfl; exact rfl; omega) | (apply WL.quo; exact rfl; exact rfl; exact rfl; exact rfl; omega) | (apply WL.rem; exact rfl; exact rfl; exact rfl; exact rfl; omega) | (apply WL.loadA tOk; exact rfl; exact rfl; exact rfl; exact rfl; exact rfl; (first | assumption | (focus (apply Cells.ext; rotate_left; assumption; (exact extA); done))); exact rfl) | (apply WL.guardF; exact rfl; exact rfl) | (apply WL.gD; exact rfl; exact rfl; all_goals intro _) | (apply WL.gN; exact rfl; exact rfl; all_goals intro _) | (apply WL.gB; exact rfl; exact rfl; all_goals intro _))
      | (show Z _ _ _ _ _; first | apply Z.tail | apply Z.then_normal | apply Z.block_normal | apply Z.then_exit | apply Z.block_exit | apply Z.then_ret | apply Z.block_ret | (apply Z.block_other; exact rfl))
      | (show W _ _ _ _ _ _; first | apply W.seq | apply W.region | apply W.block | apply W.skip | apply W.ret | apply W.exit))
    refine W.condKT rfl (dec_true (by omega)) ?_
    repeat' (first
      | (apply WL.gT; exact rfl; exact rfl; (focus (exact dec_true (by omega); done)))
      | (apply WL.gF; exact rfl; exact rfl; (focus (exact dec_true (by omega); done)))
      | (apply WL.alloc tOk; exact rfl; exact rfl; exact rfl; intro gb w' hb hge hx)
      | (apply WL.storeB (w0 := w3) tOk; exact rfl; exact rfl; exact rfl; exact rfl; assumption; (exact extA); exact rfl; exact rfl; exact rfl; (exact extA); (first | assumption | omega | (focus (apply Nat.le_trans; rotate_left; assumption; exact Below.size (by (exact extA)); done))); intro w' hb hc hX' hU; have hcc := hc; obtain ⟨h1, h2, _⟩ := hc; (obtain ⟨w4, rfl⟩ : ∃ x, x = w' := ⟨_, rfl⟩; obtain ⟨hX4, rfl⟩ : ∃ x, x = hX' := ⟨_, rfl⟩; have hC4 := cells_heap hb; obtain ⟨i0, i1, i2, _⟩ := hC4))
      | ((apply WL.mapPutF (B := 0) (w0 := wc) (vv := encK) tOk keyI; exact rfl; exact rfl; exact rfl; exact rfl; exact rfl; exact rfl; exact hM3.ext (by (exact extA)); exact (by (exact extA)); assumption; intro w' hM' hX' hU))
      | (show WL _ _ _ _ _ _ _; first | apply WL.nil | (apply WL.pev tOk; exact rfl; exact rfl; exact rfl) | (apply WL.load tOk; exact rfl; exact rfl; exact rfl; exact rfl; exact rfl; (first | assumption | (focus (apply Ext.cell; rotate_left; assumption; (exact extA); done)))) | (apply WL.index tOk; exact rfl; exact rfl; exact rfl; exact rfl; exact rfl; exact rfl; exact rfl; exact rfl; assumption; (exact extA); exact rfl; omega; assumption; intro b off h; have hcc := h; first | (obtain ⟨h1, h2, h3, h4, h5, h6, _⟩ := h) | (obtain ⟨h1, h2, h3, _⟩ := h) | (obtain ⟨h1, h2, _⟩ := h) | (obtain ⟨h1, _⟩ := h)) | (apply WL.add; exact rfl; exact rfl; exact rfl; exact rfl; omega) | (apply WL.sub; exact rfl; exact rfl; exact rfl; exact rfl; omega) | (apply WL.mul; exact rfl; exact rfl; exact rfl; exact rfl; omega) | (apply WL.quo; exact rfl; exact rfl; exact rfl; exact rfl; omega) | (apply WL.rem; exact rfl; exact rfl; exact rfl; exact rfl; omega) | (apply WL.loadA tOk; exact rfl; exact rfl; exact rfl; exact rfl; exact rfl; (first | assumption | (focus (apply Cells.ext; rotate_left; assumption; (exact extA); done))); exact rfl) | (apply WL.guardF; exact rfl; exact rfl) | (apply WL.gD; exact rfl; exact rfl; all_goals intro _) | (apply WL.gN; exact rfl; exact rfl; all_goals intro _) | (apply WL.gB; exact rfl; exact rfl; all_goals intro _))
      | (show Z _ _ _ _ _; first | apply Z.tail | apply Z.then_normal | apply Z.block_normal | apply Z.then_exit | apply Z.block_exit | apply Z.then_ret | apply Z.block_ret | (apply Z.block_other; exact rfl))
      | (show W _ _ _ _ _ _; first | apply W.seq | apply W.region | apply W.block | apply W.skip | apply W.ret | apply W.exit))
    rw [hnew] at hM'
    have hS4 := Sep.updMap (i := 0) rfl hU hM' hS (by (exact extA)) (Below.size (by (exact extA)))
    exact Z.againW ⟨by omega, (by (exact extA)), by rw [plcM_s hgg]; exact hS4⟩ ⟨rfl, rfl, rfl, rfl, rfl, trivial⟩
  obtain rfl : k = c.gates.2.2.length := by omega
  repeat' (first
    | (show WL _ _ _ _ _ _ _; first | apply WL.nil | (apply WL.pev tOk; exact rfl; exact rfl; exact rfl) | (apply WL.load tOk; exact rfl; exact rfl; exact rfl; exact rfl; exact rfl; (first | assumption | (focus (apply Ext.cell; rotate_left; assumption; (exact extA); done)))) | (apply WL.index tOk; exact rfl; exact rfl; exact rfl; exact rfl; exact rfl; exact rfl; exact rfl; exact rfl; assumption; (exact extA); exact rfl; omega; assumption; intro b off h; have hcc := h; first | (obtain ⟨h1, h2, h3, h4, h5, h6, _⟩ := h) | (obtain ⟨h1, h2, h3, _⟩ := h) | (obtain ⟨h1, h2, _⟩ := h) | (obtain ⟨h1, _⟩ := h)) | (apply WL.add; exact rfl; exact rfl; exact rfl; exact rfl; omega) | (apply WL.sub; exact rfl; exact rfl; exact rfl; exact rfl; omega) | (apply WL.mul; exact rfl; exact rfl; exact rfl; exact rfl; omega) | (apply WL.quo; exact rfl; exact rfl; exact rfl; exact rfl; omega) | (apply WL.rem; exact rfl; exact rfl; exact rfl; exact rfl; omega) | (apply WL.loadA tOk; exact rfl; exact rfl; exact rfl; exact rfl; exact rfl; (first | assumption | (focus (apply Cells.ext; rotate_left; assumption; (exact extA); done))); exact rfl) | (apply WL.guardF; exact rfl; exact rfl) | (apply WL.gD; exact rfl; exact rfl; all_goals intro _) | (apply WL.gN; exact rfl; exact rfl; all_goals intro _) | (apply WL.gB; exact rfl; exact rfl; all_goals intro _))
    | (show Z _ _ _ _ _; first | apply Z.tail | apply Z.then_normal | apply Z.block_normal | apply Z.then_exit | apply Z.block_exit | apply Z.then_ret | apply Z.block_ret | (apply Z.block_other; exact rfl))
    | (show W _ _ _ _ _ _; first | apply W.seq | apply W.region | apply W.block | apply W.skip | apply W.ret | apply W.exit))
  refine W.condKF rfl (dec_false (by omega)) ?_
  repeat' (first
    | (show WL _ _ _ _ _ _ _; first | apply WL.nil | (apply WL.pev tOk; exact rfl; exact rfl; exact rfl) | (apply WL.load tOk; exact rfl; exact rfl; exact rfl; exact rfl; exact rfl; (first | assumption | (focus (apply Ext.cell; rotate_left; assumption; (exact extA); done)))) | (apply WL.index tOk; exact rfl; exact rfl; exact rfl; exact rfl; exact rfl; exact rfl; exact rfl; exact rfl; assumption; (exact extA); exact rfl; omega; assumption; intro b off h; have hcc := h; first | (obtain ⟨h1, h2, h3, h4, h5, h6, _⟩ := h) | (obtain ⟨h1, h2, h3, _⟩ := h) | (obtain ⟨h1, h2, _⟩ := h) | (obtain ⟨h1, _⟩ := h)) | (apply WL.add; exact rfl; exact rfl; exact rfl; exact rfl; omega) | (apply WL.sub; exact rfl; exact rfl; exact rfl; exact rfl; omega) | (apply WL.mul; exact rfl; exact rfl; exact rfl; exact rfl; omega) | (apply WL.quo; exact rfl; exact rfl; exact rfl; exact rfl; omega) | (apply WL.rem; exact rfl; exact rfl; exact rfl; exact rfl; omega) | (apply WL.loadA tOk; exact rfl; exact rfl; exact rfl; exact rfl; exact rfl; (first | assumption | (focus (apply Cells.ext; rotate_left; assumption; (exact extA); done))); exact rfl) | (apply WL.guardF; exact rfl; exact rfl) | (apply WL.gD; exact rfl; exact rfl; all_goals intro _) | (apply WL.gN; exact rfl; exact rfl; all_goals intro _) | (apply WL.gB; exact rfl; exact rfl; all_goals intro _))
    | (show Z _ _ _ _ _; first | apply Z.tail | apply Z.then_normal | apply Z.block_normal | apply Z.then_exit | apply Z.block_exit | apply Z.then_ret | apply Z.block_ret | (apply Z.block_other; exact rfl))
    | (show W _ _ _ _ _ _; first | apply W.seq | apply W.region | apply W.block | apply W.skip | apply W.ret | apply W.exit))
  have y6w : w3.cell? ⟨gc, 0 + 1 + 1 + 1 + 1 + 1 + 1, none⟩ = some (rowVal c.gates) := (hcells.ext hX3).2.2.2.2.2.2.1
  have ei : ((c.gates.2.2.length : Nat) : Int).toNat = c.gates.2.2.length := by omega
  refine W.cutT (σ := Nat × Nat × World) (fun s => Ext wc s.2.2 ∧ Lt.Sep wc.heap.size s.2.2 [prow 1 encI 3 wc.heap.size (some ⟨s.1, 0, none⟩) c.gates.2.2.length (List.replicate c.gates.2.2.length 0), prow 1 encRow 23 wc.heap.size (some ⟨s.2.1, 0, none⟩) c.gates.2.2.length (List.replicate c.gates.2.2.length ((none, 0, []) : RowV Int)), pmap encK encK rm (plcM c.gates.2.2 c.gates.2.2.length)]) (fun s => [(1, .pointer (some ⟨gc, 0, none⟩)), (3, .map (some rm)), (6, .slice (some ⟨s.1, 0, none⟩) c.gates.2.2.length c.gates.2.2.length), (7, .slice (some ⟨s.2.1, 0, none⟩) c.gates.2.2.length c.gates.2.2.length)]) (fun s => s.2.2) ?_ ?_
  · repeat' (first
      | (show W _ _ (.region 7 _ _) _ _ _; apply W.regionGX (.fl true 0 (.fl true 4 (.fl false 1 (.fl true 2 (.fl false 5 (.fl true 6 (.br 3 (.fl true 8 (.br 7 (.fl true 9 .done) .stop)) (.br 7 (.br 3 (.fl true 8 (.fl true 9 .done)) .stop) .stop)))))))) [3, 5, 6, 7, 8] tMix; kernel_rfl)
      | (apply WL.make (w0 := wc) (z := (0:Int)) tOk; exact rfl; exact rfl; exact rfl; exact rfl; exact rfl; exact rfl; exact rfl; exact rfl; exact rfl; exact encI_ok; exact rfl; exact rfl; (exact extA); (first | omega | (simp; omega) | (simp at *; omega)); intro gb w' hO hge hx; replace hS := Sep.newRow (Sep.ext hS (by (exact extA))) hx hO (fun k hk => by cases hk; exact hge) (by (first | exact Nat.le_refl _ | exact Below.size (by (exact extA)))); (try simp only [List.set_cons_zero, List.set_cons_succ] at hS); (try have hR0 := hS.row (i := 0) rfl); (try have hR1 := hS.row (i := 1) rfl); (try have hR2 := hS.row (i := 2) rfl); (try have hR3 := hS.row (i := 3) rfl); (try have hR4 := hS.row (i := 4) rfl); (try have hC0 := hS.cell (i := 0) rfl); (try have hD0 := (cells_heap hC0).1); (try have hE0 := (cells_heap hC0).2.1); (try have hF0 := (cells_heap hC0).2.2.1); (try have hG0 := (cells_heap hC0).2.2.2.1); (try have hC1 := hS.cell (i := 1) rfl); (try have hD1 := (cells_heap hC1).1); (try have hE1 := (cells_heap hC1).2.1); (try have hF1 := (cells_heap hC1).2.2.1); (try have hG1 := (cells_heap hC1).2.2.2.1); (try have hC2 := hS.cell (i := 2) rfl); (try have hD2 := (cells_heap hC2).1); (try have hE2 := (cells_heap hC2).2.1); (try have hF2 := (cells_heap hC2).2.2.1); (try have hG2 := (cells_heap hC2).2.2.2.1); (try have hC3 := hS.cell (i := 3) rfl); (try have hD3 := (cells_heap hC3).1); (try have hE3 := (cells_heap hC3).2.1); (try have hF3 := (cells_heap hC3).2.2.1); (try have hG3 := (cells_heap hC3).2.2.2.1); (try have hC4 := hS.cell (i := 4) rfl); (try have hD4 := (cells_heap hC4).1); (try have hE4 := (cells_heap hC4).2.1); (try have hF4 := (cells_heap hC4).2.2.1); (try have hG4 := (cells_heap hC4).2.2.2.1); (try have hM0 := hS.map (i := 0) rfl); (try have hM1 := hS.map (i := 1) rfl); (try have hM2 := hS.map (i := 2) rfl); (try have hM3 := hS.map (i := 3) rfl); (try have hM4 := hS.map (i := 4) rfl))
      | (apply WL.make (w0 := wc) (z := nilR) tOk; exact rfl; exact rfl; exact rfl; exact rfl; exact rfl; exact rfl; exact rfl; exact rfl; exact rfl; exact encRow_ok; exact rfl; exact rfl; (exact extA); (first | omega | (simp; omega) | (simp at *; omega)); intro gb w' hO hge hx; replace hS := Sep.newRow (Sep.ext hS (by (exact extA))) hx hO (fun k hk => by cases hk; exact hge) (by (first | exact Nat.le_refl _ | exact Below.size (by (exact extA)))); (try simp only [List.set_cons_zero, List.set_cons_succ] at hS); (try have hR0 := hS.row (i := 0) rfl); (try have hR1 := hS.row (i := 1) rfl); (try have hR2 := hS.row (i := 2) rfl); (try have hR3 := hS.row (i := 3) rfl); (try have hR4 := hS.row (i := 4) rfl); (try have hC0 := hS.cell (i := 0) rfl); (try have hD0 := (cells_heap hC0).1); (try have hE0 := (cells_heap hC0).2.1); (try have hF0 := (cells_heap hC0).2.2.1); (try have hG0 := (cells_heap hC0).2.2.2.1); (try have hC1 := hS.cell (i := 1) rfl); (try have hD1 := (cells_heap hC1).1); (try have hE1 := (cells_heap hC1).2.1); (try have hF1 := (cells_heap hC1).2.2.1); (try have hG1 := (cells_heap hC1).2.2.2.1); (try have hC2 := hS.cell (i := 2) rfl); (try have hD2 := (cells_heap hC2).1); (try have hE2 := (cells_heap hC2).2.1); (try have hF2 := (cells_heap hC2).2.2.1); (try have hG2 := (cells_heap hC2).2.2.2.1); (try have hC3 := hS.cell (i := 3) rfl); (try have hD3 := (cells_heap hC3).1); (try have hE3 := (cells_heap hC3).2.1); (try have hF3 := (cells_heap hC3).2.2.1); (try have hG3 := (cells_heap hC3).2.2.2.1); (try have hC4 := hS.cell (i := 4) rfl); (try have hD4 := (cells_heap hC4).1); (try have hE4 := (cells_heap hC4).2.1); (try have hF4 := (cells_heap hC4).2.2.1); (try have hG4 := (cells_heap hC4).2.2.2.1); (try have hM0 := hS.map (i := 0) rfl); (try have hM1 := hS.map (i := 1) rfl); (try have hM2 := hS.map (i := 2) rfl); (try have hM3 := hS.map (i := 3) rfl); (try have hM4 := hS.map (i := 4) rfl))
      | (show WL _ _ _ _ _ _ _; first | apply WL.nil | (apply WL.pev tOk; exact rfl; exact rfl; exact rfl) | (apply WL.load tOk; exact rfl; exact rfl; exact rfl; exact rfl; exact rfl; (first | assumption | (focus (apply Ext.cell; rotate_left; assumption; (exact extA); done)))) | (apply WL.index tOk; exact rfl; exact rfl; exact rfl; exact rfl; exact rfl; exact rfl; exact rfl; exact rfl; assumption; (exact extA); exact rfl; omega; assumption; intro b off h; have hcc := h; first | (obtain ⟨h1, h2, h3, h4, h5, h6, _⟩ := h) | (obtain ⟨h1, h2, h3, _⟩ := h) | (obtain ⟨h1, h2, _⟩ := h) | (obtain ⟨h1, _⟩ := h)) | (apply WL.add; exact rfl; exact rfl; exact rfl; exact rfl; omega) | (apply WL.sub; exact rfl; exact rfl; exact rfl; exact rfl; omega) | (apply WL.mul; exact rfl; exact rfl; exact rfl; exact rfl; omega) | (apply WL.quo; exact rfl; exact rfl; exact rfl; exact rfl; omega) | (apply WL.rem; exact rfl; exact rfl; exact rfl; exact rfl; omega) | (apply WL.loadA tOk; exact rfl; exact rfl; exact rfl; exact rfl; exact rfl; (first | assumption | (focus (apply Cells.ext; rotate_left; assumption; (exact extA); done))); exact rfl) | (apply WL.guardF; exact rfl; exact rfl) | (apply WL.gD; exact rfl; exact rfl; all_goals intro _) | (apply WL.gN; exact rfl; exact rfl; all_goals intro _) | (apply WL.gB; exact rfl; exact rfl; all_goals intro _))
      | (show SG _ _ _ _ _ _ _ _ _; first | apply SG.done | apply SG.stop | (apply SG.fl0; exact rfl) | (apply SG.fl1; exact rfl; (focus ((intro m; first | assumption | (apply Ext.at; (exact extA)) | apply But.of_at; first | exact But.upd (by assumption) | exact But.ext (by (exact extA)) | (refine But.trans ?_ (But.upd (by assumption)); exact But.ext (by (exact extA))) | exact But.at _ _ _); done))) | (apply SG.br1; exact rfl) | (apply SG.br; exact rfl))
      | (show FL _ _ _ _ _ _ _ _; first | apply FL.nilS | (apply FL.pev tOk; exact rfl; exact rfl; exact rfl) | (apply FL.loadG tOk; exact rfl; exact rfl; exact rfl; exact rfl; exact rfl; (first | assumption | (focus (apply Ext.cell; rotate_left; assumption; (exact extA); done))); (first | (focus (intro h; cases h; done)) | (focus (intro h; have h9 := hBC _ h; (try simp only at h9); omega)) | assumption | (focus (intro h; simp only [blk, Option.map_some, Option.some.injEq] at h; omega)))) | (apply FL.index tOk; exact rfl; exact rfl; exact rfl; exact rfl; exact rfl; exact rfl; exact rfl; exact rfl; assumption; (exact extA); exact rfl; omega; assumption; exact List.cons_ne_nil _ _; intro b off h hbl; have hcc := h; first | (obtain ⟨h1, h2, h3, h4, h5, h6, _⟩ := h) | (obtain ⟨h1, h2, h3, _⟩ := h) | (obtain ⟨h1, h2, _⟩ := h) | (obtain ⟨h1, _⟩ := h)) | (apply FL.add; exact rfl; exact rfl; exact rfl; exact rfl; omega) | (apply FL.sub; exact rfl; exact rfl; exact rfl; exact rfl; omega) | (apply FL.mul; exact rfl; exact rfl; exact rfl; exact rfl; omega) | (apply FL.quo; exact rfl; exact rfl; exact rfl; exact rfl; omega) | (apply FL.rem; exact rfl; exact rfl; exact rfl; exact rfl; omega) | (apply FL.loadAG tOk; exact rfl; exact rfl; exact rfl; exact rfl; exact rfl; (first | assumption | (focus (apply Cells.ext; rotate_left; assumption; (exact extA); done))); exact rfl; (first | (focus (intro h; cases h; done)) | (focus (intro h; have h9 := hBC _ h; (try simp only at h9); omega)) | assumption | (focus (intro h; simp only [blk, Option.map_some, Option.some.injEq] at h; omega)))) | (apply FL.guardF; exact rfl; exact rfl) | (apply FL.gD; exact rfl; exact rfl; all_goals intro _) | (apply FL.gN; exact rfl; exact rfl; all_goals intro _) | (apply FL.gB; exact rfl; exact rfl; all_goals intro _))
      | (show Z _ _ _ _ _; first | (apply Z.sgL; exact rfl) | (apply Z.sgE; (focus ((intro m; first | assumption | (apply Ext.at; (exact extA)) | apply But.of_at; first | exact But.upd (by assumption) | exact But.ext (by (exact extA)) | (refine But.trans ?_ (But.upd (by assumption)); exact But.ext (by (exact extA))) | exact But.at _ _ _); done))))
      | (show SX _ _ _ _ _ _ _ _ _; first | (apply SX.done; intro w' hx) | apply SX.stop | (apply SX.fl0; exact rfl) | (apply SX.fl1; exact rfl; (exact extA)) | (apply SX.br1; exact rfl; intro w' hx) | (apply SX.br; exact rfl; (intro w' hx)))
      | (show FL _ _ _ _ _ _ _ _; first | apply FL.nilX | (apply FL.loadE tOk; exact rfl; exact rfl; exact rfl; exact rfl; exact rfl; assumption) | (apply FL.loadAE tOk; exact rfl; exact rfl; exact rfl; exact rfl; exact rfl; assumption; exact rfl) | (apply FL.indexE tOk; exact rfl; exact rfl; exact rfl; exact rfl; exact rfl; exact rfl; exact rfl; exact rfl; assumption; exact rfl; omega; assumption; intro b off h; have hcc := h; first | (obtain ⟨h1, h2, h3, h4, h5, h6, _⟩ := h) | (obtain ⟨h1, h2, h3, _⟩ := h) | (obtain ⟨h1, h2, _⟩ := h) | (obtain ⟨h1, _⟩ := h)))
      | (show FL _ _ _ _ _ _ _ _; first | apply FL.nilX | (apply FL.pev tOk; exact rfl; exact rfl; exact rfl) | (apply FL.loadG tOk; exact rfl; exact rfl; exact rfl; exact rfl; exact rfl; (first | assumption | (focus (apply Ext.cell; rotate_left; assumption; (exact extA); done))); (first | (focus (intro h; cases h; done)) | (focus (intro h; have h9 := hBC _ h; (try simp only at h9); omega)) | assumption | (focus (intro h; simp only [blk, Option.map_some, Option.some.injEq] at h; omega)))) | (apply FL.index tOk; exact rfl; exact rfl; exact rfl; exact rfl; exact rfl; exact rfl; exact rfl; exact rfl; assumption; (exact extA); exact rfl; omega; assumption; exact List.cons_ne_nil _ _; intro b off h hbl; have hcc := h; first | (obtain ⟨h1, h2, h3, h4, h5, h6, _⟩ := h) | (obtain ⟨h1, h2, h3, _⟩ := h) | (obtain ⟨h1, h2, _⟩ := h) | (obtain ⟨h1, _⟩ := h)) | (apply FL.add; exact rfl; exact rfl; exact rfl; exact rfl; omega) | (apply FL.sub; exact rfl; exact rfl; exact rfl; exact rfl; omega) | (apply FL.mul; exact rfl; exact rfl; exact rfl; exact rfl; omega) | (apply FL.quo; exact rfl; exact rfl; exact rfl; exact rfl; omega) | (apply FL.rem; exact rfl; exact rfl; exact rfl; exact rfl; omega) | (apply FL.loadAG tOk; exact rfl; exact rfl; exact rfl; exact rfl; exact rfl; (first | assumption | (focus (apply Cells.ext; rotate_left; assumption; (exact extA); done))); exact rfl; (first | (focus (intro h; cases h; done)) | (focus (intro h; have h9 := hBC _ h; (try simp only at h9); omega)) | assumption | (focus (intro h; simp only [blk, Option.map_some, Option.some.injEq] at h; omega)))) | (apply FL.guardF; exact rfl; exact rfl) | (apply FL.gD; exact rfl; exact rfl; all_goals intro _) | (apply FL.gN; exact rfl; exact rfl; all_goals intro _) | (apply FL.gB; exact rfl; exact rfl; all_goals intro _))
      | (show Z _ _ _ _ _; first | (apply Z.sxL; exact rfl) | (apply Z.sxE; (exact extA)))
      | (show Z _ _ _ _ _; first | apply Z.tail | apply Z.then_normal | apply Z.block_normal | apply Z.then_exit | apply Z.block_exit | apply Z.then_ret | apply Z.block_ret | (apply Z.block_other; exact rfl))
      | (show W _ _ _ _ _ _; first | apply W.seq | apply W.region | apply W.block | apply W.skip | apply W.ret | apply W.exit | (apply W.condT; exact rfl) | (apply W.condF; exact rfl) | (apply W.condD; exact rfl; all_goals intro _) | (apply W.condN; exact rfl; all_goals intro _) | (apply W.condB; exact rfl; all_goals intro _)))
    all_goals (rw [ei] at hS; rw [ei]; rw [List.length_replicate, List.length_replicate])
    · exact Z.cut (_, _, w') ⟨(by (exact extA)), (Sep.swap01 hS).ext (by (exact extA))⟩ ⟨rfl, rfl, rfl, rfl, trivial⟩ rfl
    · exact Z.cut (_, _, w') ⟨(by (exact extA)), hS.ext (by (exact extA))⟩ ⟨rfl, rfl, rfl, rfl, trivial⟩ rfl
  clear hS hX3 hM3 y6w
  rintro ⟨gl, go, w4⟩ ⟨hX4, hS⟩
  dsimp only at hX4 hS
  obtain ⟨n, hnn⟩ : ∃ n, c.gates.2.2.length = n := ⟨_, rfl⟩
  have hS4 : Lt.Sep wc.heap.size w4 (rst wc.heap.size (some ⟨gl, 0, none⟩) n (List.replicate n 0) (some ⟨go, 0, none⟩) n (List.replicate n nilR) rm (plcM c.gates.2.2 n) none 0 [] nilR (List.replicate n nilR)) := by
    have := Sep.addNils hS (n + 2)
    rw [hnn] at this
    exact this
  repeat' (first
    | (((show WL _ _ _ (⟨_, .call ⟨.value (.func 82), _, _⟩, _, _, _, _⟩ :: _) _ _ _); apply WL.call; exact rfl; exact rfl; exact rfl; exact rfl; exact heap_New c.gates.2.2.length hn _ wc _ (by (exact extA)) (hS4.ext (by (exact extA))); rintro v' w5 ⟨gh, F, A, rfl, hFl, hB5⟩; have hX5 := HpB.ext hB5))
    | (show WL _ _ _ _ _ _ _; first | apply WL.nil | (apply WL.pev tOk; exact rfl; exact rfl; exact rfl) | (apply WL.load tOk; exact rfl; exact rfl; exact rfl; exact rfl; exact rfl; (first | assumption | (focus (apply Ext.cell; rotate_left; assumption; (exact extA); done)))) | (apply WL.index tOk; exact rfl; exact rfl; exact rfl; exact rfl; exact rfl; exact rfl; exact rfl; exact rfl; assumption; (exact extA); exact rfl; omega; assumption; intro b off h; have hcc := h; first | (obtain ⟨h1, h2, h3, h4, h5, h6, _⟩ := h) | (obtain ⟨h1, h2, h3, _⟩ := h) | (obtain ⟨h1, h2, _⟩ := h) | (obtain ⟨h1, _⟩ := h)) | (apply WL.add; exact rfl; exact rfl; exact rfl; exact rfl; omega) | (apply WL.sub; exact rfl; exact rfl; exact rfl; exact rfl; omega) | (apply WL.mul; exact rfl; exact rfl; exact rfl; exact rfl; omega) | (apply WL.quo; exact rfl; exact rfl; exact rfl; exact rfl; omega) | (apply WL.rem; exact rfl; exact rfl; exact rfl; exact rfl; omega) | (apply WL.loadA tOk; exact rfl; exact rfl; exact rfl; exact rfl; exact rfl; (first | assumption | (focus (apply Cells.ext; rotate_left; assumption; (exact extA); done))); exact rfl) | (apply WL.guardF; exact rfl; exact rfl) | (apply WL.gD; exact rfl; exact rfl; all_goals intro _) | (apply WL.gN; exact rfl; exact rfl; all_goals intro _) | (apply WL.gB; exact rfl; exact rfl; all_goals intro _))
    | (show Z _ _ _ _ _; first | apply Z.tail | apply Z.then_normal | apply Z.block_normal | apply Z.then_exit | apply Z.block_exit | apply Z.then_ret | apply Z.block_ret | (apply Z.block_other; exact rfl))
    | (show W _ _ _ _ _ _; first | apply W.seq | apply W.region | apply W.block | apply W.skip | apply W.ret | apply W.exit))
  have hFn : F.length = n := by omega
  refine W.loopW n (fun k w' => k ≤ n ∧ ∃ lk rs lit t A, HpB wc w' gh F (rst wc.heap.size (some ⟨gl, 0, none⟩) n lk (some ⟨go, 0, none⟩) n rs rm (plcM c.gates.2.2 n) none 0 [] lit rs) t A (pA k lk) ∧ StI c.gates.2.2 k lk rs) (fun k => [(1, .pointer (some ⟨gc, 0, none⟩)), (3, .map (some rm)), (6, .slice (some ⟨gl, 0, none⟩) n n), (7, .slice (some ⟨go, 0, none⟩) n n), (8, .pointer (some ⟨gh, 0, none⟩)), (48, rowVal c.gates), (49, .int .i64 (n : Nat)), (50, .int .i64 k)]) ⟨Nat.zero_le _, _, _, _, _, _, hB5.mono (fun x => ⟨fun h => h.elim, fun ⟨j, _, h, _⟩ => absurd h (Nat.not_lt_zero _)⟩), by rw [← hnn]; exact StI.first _⟩ (fun k w' h => h.1) (by rw [← hnn]; exact ⟨rfl, rfl, rfl, rfl, rfl, rfl, rfl, rfl, trivial⟩) ?_
  clear hS hS4 hB5 hX5 hX4
  rintro k w6 ⟨hk, lk, rs, lit, t, A, hB6, hI6⟩
  have hX6 := hB6.ext
  by_cases hlt : k < n
  · obtain ⟨g, hgg⟩ := getI c.gates.2.2 (show k < c.gates.2.2.length by omega)
    have hgo := hok g (List.mem_of_getElem? hgg)
    repeat' (first
      | (show WL _ _ _ _ _ _ _; first | apply WL.nil | (apply WL.pev tOk; exact rfl; exact rfl; exact rfl) | (apply WL.load tOk; exact rfl; exact rfl; exact rfl; exact rfl; exact rfl; (first | assumption | (focus (apply Ext.cell; rotate_left; assumption; (exact extA); done)))) | (apply WL.index tOk; exact rfl; exact rfl; exact rfl; exact rfl; exact rfl; exact rfl; exact rfl; exact rfl; assumption; (exact extA); exact rfl; omega; assumption; intro b off h; have hcc := h; first | (obtain ⟨h1, h2, h3, h4, h5, h6, _⟩ := h) | (obtain ⟨h1, h2, h3, _⟩ := h) | (obtain ⟨h1, h2, _⟩ := h) | (obtain ⟨h1, _⟩ := h)) | (apply WL.add; exact rfl; exact rfl; exact rfl; exact rfl; omega) | (apply WL.sub; exact rfl; exact rfl; exact rfl; exact rfl; omega) | (apply WL.mul; exact rfl; exact rfl; exact rfl; exact rfl; omega) | (apply WL.quo; exact rfl; exact rfl; exact rfl; exact rfl; omega) | (apply WL.rem; exact rfl; exact rfl; exact rfl; exact rfl; omega) | (apply WL.loadA tOk; exact rfl; exact rfl; exact rfl; exact rfl; exact rfl; (first | assumption | (focus (apply Cells.ext; rotate_left; assumption; (exact extA); done))); exact rfl) | (apply WL.guardF; exact rfl; exact rfl) | (apply WL.gD; exact rfl; exact rfl; all_goals intro _) | (apply WL.gN; exact rfl; exact rfl; all_goals intro _) | (apply WL.gB; exact rfl; exact rfl; all_goals intro _))
      | (show Z _ _ _ _ _; first | apply Z.tail | apply Z.then_normal | apply Z.block_normal | apply Z.then_exit | apply Z.block_exit | apply Z.then_ret | apply Z.block_ret | (apply Z.block_other; exact rfl))
      | (show W _ _ _ _ _ _; first | apply W.seq | apply W.region | apply W.block | apply W.skip | apply W.ret | apply W.exit))
    refine W.condKT rfl (dec_true (by omega)) ?_
    repeat' (first
      | (apply WL.alloc tOk; exact rfl; exact rfl; exact rfl; intro gb w' hb hge hx)
      | (apply WL.storeB (w0 := w6) tOk; exact rfl; exact rfl; exact rfl; exact rfl; assumption; (exact extA); exact rfl; exact rfl; exact rfl; (exact extA); (first | assumption | omega | (focus (apply Nat.le_trans; rotate_left; assumption; exact Below.size (by (exact extA)); done))); intro w' hb hc hX' hU; have hcc := hc; obtain ⟨h1, h2, _⟩ := hc; (obtain ⟨w7, rfl⟩ : ∃ x, x = w' := ⟨_, rfl⟩; obtain ⟨hX7, rfl⟩ : ∃ x, x = hX' := ⟨_, rfl⟩; have hC7 := cells_heap hb; obtain ⟨i0, i1, i2, _⟩ := hC7))
      | (apply WL.lit tOk; exact rfl; exact rfl; exact rfl; exact rfl; exact rfl; exact rfl; (first | exact rfl | kernel_rfl | (simp [Instr.fill, catCells]; done)); exact rfl; intro gb w' hb hge hc hx; have hO := Own.of_block ([g.2.1, g.2.2]) encI_ok hb hge rfl; (obtain ⟨gt, rfl⟩ : ∃ x, x = gb := ⟨_, rfl⟩; obtain ⟨w8, rfl⟩ : ∃ x, x = w' := ⟨_, rfl⟩; obtain ⟨hx8, rfl⟩ : ∃ x, x = hx := ⟨_, rfl⟩; obtain ⟨hO8, rfl⟩ : ∃ x, x = hO := ⟨_, rfl⟩; obtain ⟨hge8, rfl⟩ : ∃ x, x = hge := ⟨_, rfl⟩))
      | (show WL _ _ _ _ _ _ _; first | apply WL.nil | (apply WL.pev tOk; exact rfl; exact rfl; exact rfl) | (apply WL.load tOk; exact rfl; exact rfl; exact rfl; exact rfl; exact rfl; (first | assumption | (focus (apply Ext.cell; rotate_left; assumption; (exact extA); done)))) | (apply WL.index tOk; exact rfl; exact rfl; exact rfl; exact rfl; exact rfl; exact rfl; exact rfl; exact rfl; assumption; (exact extA); exact rfl; omega; assumption; intro b off h; have hcc := h; first | (obtain ⟨h1, h2, h3, h4, h5, h6, _⟩ := h) | (obtain ⟨h1, h2, h3, _⟩ := h) | (obtain ⟨h1, h2, _⟩ := h) | (obtain ⟨h1, _⟩ := h)) | (apply WL.add; exact rfl; exact rfl; exact rfl; exact rfl; omega) | (apply WL.sub; exact rfl; exact rfl; exact rfl; exact rfl; omega) | (apply WL.mul; exact rfl; exact rfl; exact rfl; exact rfl; omega) | (apply WL.quo; exact rfl; exact rfl; exact rfl; exact rfl; omega) | (apply WL.rem; exact rfl; exact rfl; exact rfl; exact rfl; omega) | (apply WL.loadA tOk; exact rfl; exact rfl; exact rfl; exact rfl; exact rfl; (first | assumption | (focus (apply Cells.ext; rotate_left; assumption; (exact extA); done))); exact rfl) | (apply WL.guardF; exact rfl; exact rfl) | (apply WL.gD; exact rfl; exact rfl; all_goals intro _) | (apply WL.gN; exact rfl; exact rfl; all_goals intro _) | (apply WL.gB; exact rfl; exact rfl; all_goals intro _))
      | (show Z _ _ _ _ _; first | apply Z.tail | apply Z.then_normal | apply Z.block_normal | apply Z.then_exit | apply Z.block_exit | apply Z.then_ret | apply Z.block_ret | (apply Z.block_other; exact rfl))
      | (show W _ _ _ _ _ _; first | apply W.seq | apply W.region | apply W.block | apply W.skip | apply W.ret | apply W.exit))
    have hB8 := hB6.setLit (show Ext w6 w8 from (by (exact extA))) (hO8.base (Nat.le_trans (Below.size hX6) (Below.size hX7))) (Nat.le_trans (Below.size hX7) hge8)
    have hA8 := hI6.enter hgg
    refine W.loopW 2 (fun j w' => j ≤ 2 ∧ ∃ lk rs t A, HpB wc w' gh F (rst wc.heap.size (some ⟨gl, 0, none⟩) n lk (some ⟨go, 0, none⟩) n rs rm (plcM c.gates.2.2 n) none 0 [] (some ⟨gt, 0, none⟩, 2, [g.2.1, g.2.2]) rs) t A (pA k lk) ∧ StA c.gates.2.2 k g j lk rs) (fun j => [(1, .pointer (some ⟨gc, 0, none⟩)), (3, .map (some rm)), (6, .slice (some ⟨gl, 0, none⟩) n n), (7, .slice (some ⟨go, 0, none⟩) n n), (8, .pointer (some ⟨gh, 0, none⟩)), (9, .int .i64 k), (48, rowVal c.gates), (49, .int .i64 (n : Nat)), (50, .int .i64 k), (59, .slice (some ⟨gt, 0, none⟩) 2 2), (60, .int .i64 2), (61, .int .i64 j)]) ⟨Nat.zero_le _, _, _, _, _, hB8, hA8⟩ (fun k w' h => h.1) ⟨rfl, rfl, rfl, rfl, rfl, rfl, rfl, rfl, rfl, rfl, rfl, rfl, trivial⟩ ?_
    clear hB8 hA8 hB6 hI6 hX6
    rintro j w9 ⟨hj, lk, rs, t, A, hB9, hA9⟩
    have hX9 := hB9.ext
    by_cases hjl : j < 2
    · obtain ⟨l, hl⟩ : ∃ l, litJ g j = l := ⟨_, rfl⟩
      have hll : ([g.2.1, g.2.2] : List Int)[((j : Nat) : Int).toNat]? = some l := by
        rw [Int.toNat_natCast, ← hl]
        match j, hjl with
        | 0, _ => rfl
        | 1, _ => rfl
      have hl0 : 0 ≤ l ∧ l ≤ 33554433 := by
        rw [← hl]
        match j, hjl with
        | 0, _ => exact hgo.2.1
        | 1, _ => exact hgo.2.2
      obtain ⟨hX9, ⟨hat, hze, as_, cs, tr, ct, ap, cp, hS⟩, hO9, hm9⟩ := hB9
      have hMp := hS.map (i := 6) rfl
      have hLo := hS.row (i := 4) rfl
      have RL := (hS.row (i := 8) rfl).row encI_ok
      have hll3 := hA9.llen
      have hrl3 := hA9.rlen
      have hLn : lk.length = n := by omega
      have hRn : rs.length = n := by omega
      cases hmg : mget (l / 2) (plcM c.gates.2.2 n) with
      | none =>
        repeat' (first
          | ((apply WL.lookNoneF tOk keyI; exact rfl; exact rfl; exact rfl; exact rfl; exact rfl; exact rfl; exact rfl; exact hMp; exact hmg))
          | (show WL _ _ _ _ _ _ _; first | apply WL.nil | (apply WL.pev tOk; exact rfl; exact rfl; exact rfl) | (apply WL.load tOk; exact rfl; exact rfl; exact rfl; exact rfl; exact rfl; (first | assumption | (focus (apply Ext.cell; rotate_left; assumption; (exact extA); done)))) | (apply WL.index tOk; exact rfl; exact rfl; exact rfl; exact rfl; exact rfl; exact rfl; exact rfl; exact rfl; assumption; (exact extA); exact rfl; omega; assumption; intro b off h; have hcc := h; first | (obtain ⟨h1, h2, h3, h4, h5, h6, _⟩ := h) | (obtain ⟨h1, h2, h3, _⟩ := h) | (obtain ⟨h1, h2, _⟩ := h) | (obtain ⟨h1, _⟩ := h)) | (apply WL.add; exact rfl; exact rfl; exact rfl; exact rfl; omega) | (apply WL.sub; exact rfl; exact rfl; exact rfl; exact rfl; omega) | (apply WL.mul; exact rfl; exact rfl; exact rfl; exact rfl; omega) | (apply WL.quo; exact rfl; exact rfl; exact rfl; exact rfl; omega) | (apply WL.rem; exact rfl; exact rfl; exact rfl; exact rfl; omega) | (apply WL.loadA tOk; exact rfl; exact rfl; exact rfl; exact rfl; exact rfl; (first | assumption | (focus (apply Cells.ext; rotate_left; assumption; (exact extA); done))); exact rfl) | (apply WL.guardF; exact rfl; exact rfl) | (apply WL.gD; exact rfl; exact rfl; all_goals intro _) | (apply WL.gN; exact rfl; exact rfl; all_goals intro _) | (apply WL.gB; exact rfl; exact rfl; all_goals intro _))
          | (show Z _ _ _ _ _; first | apply Z.tail | apply Z.then_normal | apply Z.block_normal | apply Z.then_exit | apply Z.block_exit | apply Z.then_ret | apply Z.block_ret | (apply Z.block_other; exact rfl))
          | (show W _ _ _ _ _ _; first | apply W.seq | apply W.region | apply W.block | apply W.skip | apply W.ret | apply W.exit))
        refine W.condKT rfl (dec_true (by omega)) ?_
        repeat' (first
          | ((apply WL.lookNoneF tOk keyI; exact rfl; exact rfl; exact rfl; exact rfl; exact rfl; exact rfl; exact rfl; exact hMp; exact hmg))
          | (show WL _ _ _ _ _ _ _; first | apply WL.nil | (apply WL.pev tOk; exact rfl; exact rfl; exact rfl) | (apply WL.load tOk; exact rfl; exact rfl; exact rfl; exact rfl; exact rfl; (first | assumption | (focus (apply Ext.cell; rotate_left; assumption; (exact extA); done)))) | (apply WL.index tOk; exact rfl; exact rfl; exact rfl; exact rfl; exact rfl; exact rfl; exact rfl; exact rfl; assumption; (exact extA); exact rfl; omega; assumption; intro b off h; have hcc := h; first | (obtain ⟨h1, h2, h3, h4, h5, h6, _⟩ := h) | (obtain ⟨h1, h2, h3, _⟩ := h) | (obtain ⟨h1, h2, _⟩ := h) | (obtain ⟨h1, _⟩ := h)) | (apply WL.add; exact rfl; exact rfl; exact rfl; exact rfl; omega) | (apply WL.sub; exact rfl; exact rfl; exact rfl; exact rfl; omega) | (apply WL.mul; exact rfl; exact rfl; exact rfl; exact rfl; omega) | (apply WL.quo; exact rfl; exact rfl; exact rfl; exact rfl; omega) | (apply WL.rem; exact rfl; exact rfl; exact rfl; exact rfl; omega) | (apply WL.loadA tOk; exact rfl; exact rfl; exact rfl; exact rfl; exact rfl; (first | assumption | (focus (apply Cells.ext; rotate_left; assumption; (exact extA); done))); exact rfl) | (apply WL.guardF; exact rfl; exact rfl) | (apply WL.gD; exact rfl; exact rfl; all_goals intro _) | (apply WL.gN; exact rfl; exact rfl; all_goals intro _) | (apply WL.gB; exact rfl; exact rfl; all_goals intro _))
          | (show Z _ _ _ _ _; first | apply Z.tail | apply Z.then_normal | apply Z.block_normal | apply Z.then_exit | apply Z.block_exit | apply Z.then_ret | apply Z.block_ret | (apply Z.block_other; exact rfl))
          | (show W _ _ _ _ _ _; first | apply W.seq | apply W.region | apply W.block | apply W.skip | apply W.ret | apply W.exit))
        refine W.condKF rfl rfl ?_
        repeat' (first
          | (show WL _ _ _ _ _ _ _; first | apply WL.nil | (apply WL.pev tOk; exact rfl; exact rfl; exact rfl) | (apply WL.load tOk; exact rfl; exact rfl; exact rfl; exact rfl; exact rfl; (first | assumption | (focus (apply Ext.cell; rotate_left; assumption; (exact extA); done)))) | (apply WL.index tOk; exact rfl; exact rfl; exact rfl; exact rfl; exact rfl; exact rfl; exact rfl; exact rfl; assumption; (exact extA); exact rfl; omega; assumption; intro b off h; have hcc := h; first | (obtain ⟨h1, h2, h3, h4, h5, h6, _⟩ := h) | (obtain ⟨h1, h2, h3, _⟩ := h) | (obtain ⟨h1, h2, _⟩ := h) | (obtain ⟨h1, _⟩ := h)) | (apply WL.add; exact rfl; exact rfl; exact rfl; exact rfl; omega) | (apply WL.sub; exact rfl; exact rfl; exact rfl; exact rfl; omega) | (apply WL.mul; exact rfl; exact rfl; exact rfl; exact rfl; omega) | (apply WL.quo; exact rfl; exact rfl; exact rfl; exact rfl; omega) | (apply WL.rem; exact rfl; exact rfl; exact rfl; exact rfl; omega) | (apply WL.loadA tOk; exact rfl; exact rfl; exact rfl; exact rfl; exact rfl; (first | assumption | (focus (apply Cells.ext; rotate_left; assumption; (exact extA); done))); exact rfl) | (apply WL.guardF; exact rfl; exact rfl) | (apply WL.gD; exact rfl; exact rfl; all_goals intro _) | (apply WL.gN; exact rfl; exact rfl; all_goals intro _) | (apply WL.gB; exact rfl; exact rfl; all_goals intro _))
          | (show Z _ _ _ _ _; first | apply Z.tail | apply Z.then_normal | apply Z.block_normal | apply Z.then_exit | apply Z.block_exit | apply Z.then_ret | apply Z.block_ret | (apply Z.block_other; exact rfl))
          | (show W _ _ _ _ _ _; first | apply W.seq | apply W.region | apply W.block | apply W.skip | apply W.ret | apply W.exit))
        refine Z.againW ⟨by omega, lk, rs, t, A, ⟨(by (exact extA)), ⟨hat, hze, as_, cs, tr, ct, ap, cp, hS⟩, hO9, hm9⟩, hA9.skip fun q y hy he => ?_⟩ ⟨rfl, rfl, rfl, rfl, rfl, rfl, rfl, rfl, rfl, rfl, rfl, rfl, trivial⟩
        rw [← hnn] at hmg
        exact plcM_none hmg q y hy (by rw [← hl, he])
      | some v =>
        have hmg' := hmg
        rw [← hnn] at hmg'
        obtain ⟨kk, y, hy, hyl, rfl⟩ := plcM_some hmg'
        have hkk := lt_of_get hy
        obtain ⟨r, hr, hrv⟩ := hA9.row kk y hy
        have hnow := hA9.now
        have hLk : lk[((k : Nat) : Int).toNat]? = some (lackJ c.gates.2.2 g j : Int) := by rw [Int.toNat_natCast]; exact hnow
        have hRk : rs[((kk : Nat) : Int).toNat]? = some r := by rw [Int.toNat_natCast]; exact hr
        have hlj := lackJ_le c.gates.2.2 g j
        repeat' (first
          | ((apply WL.lookSomeF tOk keyI; exact rfl; exact rfl; exact rfl; exact rfl; exact rfl; exact rfl; exact rfl; exact hMp; exact hmg))
          | (show WL _ _ _ _ _ _ _; first | apply WL.nil | (apply WL.pev tOk; exact rfl; exact rfl; exact rfl) | (apply WL.load tOk; exact rfl; exact rfl; exact rfl; exact rfl; exact rfl; (first | assumption | (focus (apply Ext.cell; rotate_left; assumption; (exact extA); done)))) | (apply WL.index tOk; exact rfl; exact rfl; exact rfl; exact rfl; exact rfl; exact rfl; exact rfl; exact rfl; assumption; (exact extA); exact rfl; omega; assumption; intro b off h; have hcc := h; first | (obtain ⟨h1, h2, h3, h4, h5, h6, _⟩ := h) | (obtain ⟨h1, h2, h3, _⟩ := h) | (obtain ⟨h1, h2, _⟩ := h) | (obtain ⟨h1, _⟩ := h)) | (apply WL.add; exact rfl; exact rfl; exact rfl; exact rfl; omega) | (apply WL.sub; exact rfl; exact rfl; exact rfl; exact rfl; omega) | (apply WL.mul; exact rfl; exact rfl; exact rfl; exact rfl; omega) | (apply WL.quo; exact rfl; exact rfl; exact rfl; exact rfl; omega) | (apply WL.rem; exact rfl; exact rfl; exact rfl; exact rfl; omega) | (apply WL.loadA tOk; exact rfl; exact rfl; exact rfl; exact rfl; exact rfl; (first | assumption | (focus (apply Cells.ext; rotate_left; assumption; (exact extA); done))); exact rfl) | (apply WL.guardF; exact rfl; exact rfl) | (apply WL.gD; exact rfl; exact rfl; all_goals intro _) | (apply WL.gN; exact rfl; exact rfl; all_goals intro _) | (apply WL.gB; exact rfl; exact rfl; all_goals intro _))
          | (show Z _ _ _ _ _; first | apply Z.tail | apply Z.then_normal | apply Z.block_normal | apply Z.then_exit | apply Z.block_exit | apply Z.then_ret | apply Z.block_ret | (apply Z.block_other; exact rfl))
          | (show W _ _ _ _ _ _; first | apply W.seq | apply W.region | apply W.block | apply W.skip | apply W.ret | apply W.exit))
        refine W.condKT rfl (dec_true (by omega)) ?_
        repeat' (first
          | ((apply WL.lookSomeF tOk keyI; exact rfl; exact rfl; exact rfl; exact rfl; exact rfl; exact rfl; exact rfl; exact hMp; exact hmg))
          | (show WL _ _ _ _ _ _ _; first | apply WL.nil | (apply WL.pev tOk; exact rfl; exact rfl; exact rfl) | (apply WL.load tOk; exact rfl; exact rfl; exact rfl; exact rfl; exact rfl; (first | assumption | (focus (apply Ext.cell; rotate_left; assumption; (exact extA); done)))) | (apply WL.index tOk; exact rfl; exact rfl; exact rfl; exact rfl; exact rfl; exact rfl; exact rfl; exact rfl; assumption; (exact extA); exact rfl; omega; assumption; intro b off h; have hcc := h; first | (obtain ⟨h1, h2, h3, h4, h5, h6, _⟩ := h) | (obtain ⟨h1, h2, h3, _⟩ := h) | (obtain ⟨h1, h2, _⟩ := h) | (obtain ⟨h1, _⟩ := h)) | (apply WL.add; exact rfl; exact rfl; exact rfl; exact rfl; omega) | (apply WL.sub; exact rfl; exact rfl; exact rfl; exact rfl; omega) | (apply WL.mul; exact rfl; exact rfl; exact rfl; exact rfl; omega) | (apply WL.quo; exact rfl; exact rfl; exact rfl; exact rfl; omega) | (apply WL.rem; exact rfl; exact rfl; exact rfl; exact rfl; omega) | (apply WL.loadA tOk; exact rfl; exact rfl; exact rfl; exact rfl; exact rfl; (first | assumption | (focus (apply Cells.ext; rotate_left; assumption; (exact extA); done))); exact rfl) | (apply WL.guardF; exact rfl; exact rfl) | (apply WL.gD; exact rfl; exact rfl; all_goals intro _) | (apply WL.gN; exact rfl; exact rfl; all_goals intro _) | (apply WL.gB; exact rfl; exact rfl; all_goals intro _))
          | (show Z _ _ _ _ _; first | apply Z.tail | apply Z.then_normal | apply Z.block_normal | apply Z.then_exit | apply Z.block_exit | apply Z.then_ret | apply Z.block_ret | (apply Z.block_other; exact rfl))
          | (show W _ _ _ _ _ _; first | apply W.seq | apply W.region | apply W.block | apply W.skip | apply W.ret | apply W.exit))
        refine W.condKT rfl rfl ?_
        repeat' (first
          | (apply WL.indexO tOk; exact rfl; exact rfl; exact rfl; exact rfl; exact rfl; exact rfl; exact rfl; exact rfl; assumption; (exact extA); exact encI_ok; (first | exact rfl | (focus (simp only [List.length_set]; done)) | (focus (simp; done)) | (focus (simp [*]; done)) | omega | (focus (simp only [List.length_set]; omega))); omega; assumption; intro gb ha hc; cases ha; have hcc := hc; first | (obtain ⟨h1, h2, h3, _⟩ := hc) | (obtain ⟨h1, h2, _⟩ := hc) | (obtain ⟨h1, _⟩ := hc))
          | (apply WL.storeO (z' := (((lackJ c.gates.2.2 g j : Nat) : Int) + 1)) tOk; exact rfl; exact rfl; exact rfl; exact rfl; assumption; (exact extA); exact rfl; exact rfl; exact rfl; exact encI_ok; assumption; exact rfl; (exact extA); intro w' hO hX' hU)
          | (show WL _ _ _ _ _ _ _; first | apply WL.nil | (apply WL.pev tOk; exact rfl; exact rfl; exact rfl) | (apply WL.load tOk; exact rfl; exact rfl; exact rfl; exact rfl; exact rfl; (first | assumption | (focus (apply Ext.cell; rotate_left; assumption; (exact extA); done)))) | (apply WL.index tOk; exact rfl; exact rfl; exact rfl; exact rfl; exact rfl; exact rfl; exact rfl; exact rfl; assumption; (exact extA); exact rfl; omega; assumption; intro b off h; have hcc := h; first | (obtain ⟨h1, h2, h3, h4, h5, h6, _⟩ := h) | (obtain ⟨h1, h2, h3, _⟩ := h) | (obtain ⟨h1, h2, _⟩ := h) | (obtain ⟨h1, _⟩ := h)) | (apply WL.add; exact rfl; exact rfl; exact rfl; exact rfl; omega) | (apply WL.sub; exact rfl; exact rfl; exact rfl; exact rfl; omega) | (apply WL.mul; exact rfl; exact rfl; exact rfl; exact rfl; omega) | (apply WL.quo; exact rfl; exact rfl; exact rfl; exact rfl; omega) | (apply WL.rem; exact rfl; exact rfl; exact rfl; exact rfl; omega) | (apply WL.loadA tOk; exact rfl; exact rfl; exact rfl; exact rfl; exact rfl; (first | assumption | (focus (apply Cells.ext; rotate_left; assumption; (exact extA); done))); exact rfl) | (apply WL.guardF; exact rfl; exact rfl) | (apply WL.gD; exact rfl; exact rfl; all_goals intro _) | (apply WL.gN; exact rfl; exact rfl; all_goals intro _) | (apply WL.gB; exact rfl; exact rfl; all_goals intro _))
          | (show Z _ _ _ _ _; first | apply Z.tail | apply Z.then_normal | apply Z.block_normal | apply Z.then_exit | apply Z.block_exit | apply Z.then_ret | apply Z.block_ret | (apply Z.block_other; exact rfl))
          | (show W _ _ _ _ _ _; first | apply W.seq | apply W.region | apply W.block | apply W.skip | apply W.ret | apply W.exit))
        obtain ⟨w10, rfl⟩ : ∃ x, x = w' := ⟨_, rfl⟩
        have hS1 : Lt.Sep wc.heap.size w10 (hpP wc.heap.size gh as_ cs F tr ct t.length t ap cp A ++ rst wc.heap.size (some ⟨gl, 0, none⟩) n (lk.set ((k : Nat) : Int).toNat (((lackJ c.gates.2.2 g j : Nat) : Int) + 1)) (some ⟨go, 0, none⟩) n rs rm (plcM c.gates.2.2 n) none 0 [] (some ⟨gt, 0, none⟩, 2, [g.2.1, g.2.2]) rs) := Sep.updRow (i := 4) rfl hU hO (.inl rfl) hS (Ext.refl _) (Below.size hX9)
        have hOu := hS1.row (i := 5) rfl
        have hIn := hS1.row (rst_in hr _ rfl)
        have hX10 : Ext wc w10 := (by (exact extA))
        have hrl : r.2.2.length ≤ 2 * n + 2 := by
          have q1 := abv_len c.gates.2.2 y k
          have q2 := hangsJ_le g y j
          rw [hrv, List.length_append, List.length_replicate]; omega
        repeat' (first
          | (apply WL.indexO tOk; exact rfl; exact rfl; exact rfl; exact rfl; exact rfl; exact rfl; exact rfl; exact rfl; assumption; (exact extA); exact encRow_ok; (first | exact rfl | (focus (simp only [List.length_set]; done)) | (focus (simp; done)) | (focus (simp [*]; done)) | omega | (focus (simp only [List.length_set]; omega))); omega; assumption; intro gb ha hc; cases ha; have hcc := hc; first | (obtain ⟨h1, h2, h3, _⟩ := hc) | (obtain ⟨h1, h2, _⟩ := hc) | (obtain ⟨h1, _⟩ := hc))
          | (apply WL.lit tOk; exact rfl; exact rfl; exact rfl; exact rfl; exact rfl; exact rfl; (first | exact rfl | kernel_rfl | (simp [Instr.fill, catCells]; done)); exact rfl; intro gb w' hb hge hc hx)
          | (apply WL.append1 (z := (((k : Nat) : Int))) tOk encI_ok; exact rfl; exact rfl; exact rfl; exact rfl; exact rfl; exact rfl; exact rfl; exact rfl; exact rfl; exact rfl; assumption; (exact extA); (first | exact rfl | (focus (simp only [List.length_set]; done)) | (focus (simp; done)) | (focus (simp [*]; done)) | omega | (focus (simp only [List.length_set]; omega))); assumption; exact rfl; exact rfl; (exact extA); (first | omega | (simp; omega) | (simp at *; omega)); intro a' cap' w' hO hX' hU hF)
          | (show WL _ _ _ _ _ _ _; first | apply WL.nil | (apply WL.pev tOk; exact rfl; exact rfl; exact rfl) | (apply WL.load tOk; exact rfl; exact rfl; exact rfl; exact rfl; exact rfl; (first | assumption | (focus (apply Ext.cell; rotate_left; assumption; (exact extA); done)))) | (apply WL.index tOk; exact rfl; exact rfl; exact rfl; exact rfl; exact rfl; exact rfl; exact rfl; exact rfl; assumption; (exact extA); exact rfl; omega; assumption; intro b off h; have hcc := h; first | (obtain ⟨h1, h2, h3, h4, h5, h6, _⟩ := h) | (obtain ⟨h1, h2, h3, _⟩ := h) | (obtain ⟨h1, h2, _⟩ := h) | (obtain ⟨h1, _⟩ := h)) | (apply WL.add; exact rfl; exact rfl; exact rfl; exact rfl; omega) | (apply WL.sub; exact rfl; exact rfl; exact rfl; exact rfl; omega) | (apply WL.mul; exact rfl; exact rfl; exact rfl; exact rfl; omega) | (apply WL.quo; exact rfl; exact rfl; exact rfl; exact rfl; omega) | (apply WL.rem; exact rfl; exact rfl; exact rfl; exact rfl; omega) | (apply WL.loadA tOk; exact rfl; exact rfl; exact rfl; exact rfl; exact rfl; (first | assumption | (focus (apply Cells.ext; rotate_left; assumption; (exact extA); done))); exact rfl) | (apply WL.guardF; exact rfl; exact rfl) | (apply WL.gD; exact rfl; exact rfl; all_goals intro _) | (apply WL.gN; exact rfl; exact rfl; all_goals intro _) | (apply WL.gB; exact rfl; exact rfl; all_goals intro _))
          | (show Z _ _ _ _ _; first | apply Z.tail | apply Z.then_normal | apply Z.block_normal | apply Z.then_exit | apply Z.block_exit | apply Z.then_ret | apply Z.block_ret | (apply Z.block_other; exact rfl))
          | (show W _ _ _ _ _ _; first | apply W.seq | apply W.region | apply W.block | apply W.skip | apply W.ret | apply W.exit))
        obtain ⟨w12, rfl⟩ : ∃ x, x = w' := ⟨_, rfl⟩; obtain ⟨a2, rfl⟩ : ∃ x, x = a' := ⟨_, rfl⟩; obtain ⟨cp2, rfl⟩ : ∃ x, x = cap' := ⟨_, rfl⟩
        have hS2 := Sep.updRow (rst_in hr _ rfl) hU hO hF hS1 (by (exact extA)) (Below.size (by (exact extA)))
        rw [show prow 1 encI 3 wc.heap.size a2 cp2 (r.2.2 ++ [((k : Nat) : Int)]) = pI wc.heap.size (a2, cp2, r.2.2 ++ [((k : Nat) : Int)]) from rfl, rst_set _ rfl] at hS2
        have hOu2 := hS2.row (i := 5) rfl
        have hX12 : Ext wc w12 := (by (exact extA))
        repeat' (first
          | (apply WL.indexO tOk; exact rfl; exact rfl; exact rfl; exact rfl; exact rfl; exact rfl; exact rfl; exact rfl; assumption; (exact extA); exact encRow_ok; (first | exact rfl | (focus (simp only [List.length_set]; done)) | (focus (simp; done)) | (focus (simp [*]; done)) | omega | (focus (simp only [List.length_set]; omega))); omega; assumption; intro gb ha hc; cases ha; have hcc := hc; first | (obtain ⟨h1, h2, h3, _⟩ := hc) | (obtain ⟨h1, h2, _⟩ := hc) | (obtain ⟨h1, _⟩ := hc))
          | (apply WL.storeO (z' := (((a2, cp2, r.2.2 ++ [((k : Nat) : Int)]) : RowV Int))) tOk; exact rfl; exact rfl; exact rfl; exact rfl; assumption; (exact extA); exact rfl; exact rfl; exact rfl; exact encRow_ok; assumption; exact rfl; (exact extA); intro w' hO hX' hU)
          | (show WL _ _ _ _ _ _ _; first | apply WL.nil | (apply WL.pev tOk; exact rfl; exact rfl; exact rfl) | (apply WL.load tOk; exact rfl; exact rfl; exact rfl; exact rfl; exact rfl; (first | assumption | (focus (apply Ext.cell; rotate_left; assumption; (exact extA); done)))) | (apply WL.index tOk; exact rfl; exact rfl; exact rfl; exact rfl; exact rfl; exact rfl; exact rfl; exact rfl; assumption; (exact extA); exact rfl; omega; assumption; intro b off h; have hcc := h; first | (obtain ⟨h1, h2, h3, h4, h5, h6, _⟩ := h) | (obtain ⟨h1, h2, h3, _⟩ := h) | (obtain ⟨h1, h2, _⟩ := h) | (obtain ⟨h1, _⟩ := h)) | (apply WL.add; exact rfl; exact rfl; exact rfl; exact rfl; omega) | (apply WL.sub; exact rfl; exact rfl; exact rfl; exact rfl; omega) | (apply WL.mul; exact rfl; exact rfl; exact rfl; exact rfl; omega) | (apply WL.quo; exact rfl; exact rfl; exact rfl; exact rfl; omega) | (apply WL.rem; exact rfl; exact rfl; exact rfl; exact rfl; omega) | (apply WL.loadA tOk; exact rfl; exact rfl; exact rfl; exact rfl; exact rfl; (first | assumption | (focus (apply Cells.ext; rotate_left; assumption; (exact extA); done))); exact rfl) | (apply WL.guardF; exact rfl; exact rfl) | (apply WL.gD; exact rfl; exact rfl; all_goals intro _) | (apply WL.gN; exact rfl; exact rfl; all_goals intro _) | (apply WL.gB; exact rfl; exact rfl; all_goals intro _))
          | (show Z _ _ _ _ _; first | apply Z.tail | apply Z.then_normal | apply Z.block_normal | apply Z.then_exit | apply Z.block_exit | apply Z.then_ret | apply Z.block_ret | (apply Z.block_other; exact rfl))
          | (show W _ _ _ _ _ _; first | apply W.seq | apply W.region | apply W.block | apply W.skip | apply W.ret | apply W.exit))
        have hS3 : Lt.Sep wc.heap.size w' (hpP wc.heap.size gh as_ cs F tr ct t.length t ap cp A ++ rst wc.heap.size (some ⟨gl, 0, none⟩) n (lk.set ((k : Nat) : Int).toNat (((lackJ c.gates.2.2 g j : Nat) : Int) + 1)) (some ⟨go, 0, none⟩) n (rs.set ((kk : Nat) : Int).toNat (a2, cp2, r.2.2 ++ [((k : Nat) : Int)])) rm (plcM c.gates.2.2 n) none 0 [] (some ⟨gt, 0, none⟩, 2, [g.2.1, g.2.2]) (rs.set kk (a2, cp2, r.2.2 ++ [((k : Nat) : Int)]))) := Sep.updRow (i := 5) rfl hU hO (.inl rfl) hS2 (Ext.refl _) (Below.size hX12)
        rw [Int.toNat_natCast, Int.toNat_natCast] at hS3
        exact Z.againW ⟨by omega, _, _, t, A, ⟨(by (exact extA)), ⟨hat, hze, as_, cs, tr, ct, ap, cp, hS3⟩, hO9, fun x => (hm9 x).trans (pA_set x).symm⟩, hA9.take ho hy (by rw [hyl, hl]) hr⟩ ⟨rfl, rfl, rfl, rfl, rfl, rfl, rfl, rfl, rfl, rfl, rfl, rfl, trivial⟩
    obtain rfl : j = 2 := by omega
    have hI9 := hA9.leave hgg
    have hnow : lk[k]? = some (lackG c.gates.2.2 [] g : Int) := by rw [hA9.now, lackJ2]
    have hll3 := hA9.llen
    have hB9' := hB9
    obtain ⟨hX9, ⟨hat, hze, as_, cs, tr, ct, ap, cp, hS⟩, hO9, hm9⟩ := hB9'
    have hLo := hS.row (i := 4) rfl
    have hLn : lk.length = n := by omega
    have hLk : lk[((k : Nat) : Int).toNat]? = some (lackG c.gates.2.2 [] g : Int) := by rw [Int.toNat_natCast]; exact hnow
    repeat' (first
      | (show WL _ _ _ _ _ _ _; first | apply WL.nil | (apply WL.pev tOk; exact rfl; exact rfl; exact rfl) | (apply WL.load tOk; exact rfl; exact rfl; exact rfl; exact rfl; exact rfl; (first | assumption | (focus (apply Ext.cell; rotate_left; assumption; (exact extA); done)))) | (apply WL.index tOk; exact rfl; exact rfl; exact rfl; exact rfl; exact rfl; exact rfl; exact rfl; exact rfl; assumption; (exact extA); exact rfl; omega; assumption; intro b off h; have hcc := h; first | (obtain ⟨h1, h2, h3, h4, h5, h6, _⟩ := h) | (obtain ⟨h1, h2, h3, _⟩ := h) | (obtain ⟨h1, h2, _⟩ := h) | (obtain ⟨h1, _⟩ := h)) | (apply WL.add; exact rfl; exact rfl; exact rfl; exact rfl; omega) | (apply WL.sub; exact rfl; exact rfl; exact rfl; exact rfl; omega) | (apply WL.mul; exact rfl; exact rfl; exact rfl; exact rfl; omega) | (apply WL.quo; exact rfl; exact rfl; exact rfl; exact rfl; omega) | (apply WL.rem; exact rfl; exact rfl; exact rfl; exact rfl; omega) | (apply WL.loadA tOk; exact rfl; exact rfl; exact rfl; exact rfl; exact rfl; (first | assumption | (focus (apply Cells.ext; rotate_left; assumption; (exact extA); done))); exact rfl) | (apply WL.guardF; exact rfl; exact rfl) | (apply WL.gD; exact rfl; exact rfl; all_goals intro _) | (apply WL.gN; exact rfl; exact rfl; all_goals intro _) | (apply WL.gB; exact rfl; exact rfl; all_goals intro _))
      | (show Z _ _ _ _ _; first | apply Z.tail | apply Z.then_normal | apply Z.block_normal | apply Z.then_exit | apply Z.block_exit | apply Z.then_ret | apply Z.block_ret | (apply Z.block_other; exact rfl))
      | (show W _ _ _ _ _ _; first | apply W.seq | apply W.region | apply W.block | apply W.skip | apply W.ret | apply W.exit))
    refine W.condKF rfl (dec_false (by omega)) ?_
    repeat' (first
      | (apply WL.indexO tOk; exact rfl; exact rfl; exact rfl; exact rfl; exact rfl; exact rfl; exact rfl; exact rfl; assumption; (exact extA); exact encI_ok; (first | exact rfl | (focus (simp only [List.length_set]; done)) | (focus (simp; done)) | (focus (simp [*]; done)) | omega | (focus (simp only [List.length_set]; omega))); omega; assumption; intro gb ha hc; cases ha; have hcc := hc; first | (obtain ⟨h1, h2, h3, _⟩ := hc) | (obtain ⟨h1, h2, _⟩ := hc) | (obtain ⟨h1, _⟩ := hc))
      | (show WL _ _ _ _ _ _ _; first | apply WL.nil | (apply WL.pev tOk; exact rfl; exact rfl; exact rfl) | (apply WL.load tOk; exact rfl; exact rfl; exact rfl; exact rfl; exact rfl; (first | assumption | (focus (apply Ext.cell; rotate_left; assumption; (exact extA); done)))) | (apply WL.index tOk; exact rfl; exact rfl; exact rfl; exact rfl; exact rfl; exact rfl; exact rfl; exact rfl; assumption; (exact extA); exact rfl; omega; assumption; intro b off h; have hcc := h; first | (obtain ⟨h1, h2, h3, h4, h5, h6, _⟩ := h) | (obtain ⟨h1, h2, h3, _⟩ := h) | (obtain ⟨h1, h2, _⟩ := h) | (obtain ⟨h1, _⟩ := h)) | (apply WL.add; exact rfl; exact rfl; exact rfl; exact rfl; omega) | (apply WL.sub; exact rfl; exact rfl; exact rfl; exact rfl; omega) | (apply WL.mul; exact rfl; exact rfl; exact rfl; exact rfl; omega) | (apply WL.quo; exact rfl; exact rfl; exact rfl; exact rfl; omega) | (apply WL.rem; exact rfl; exact rfl; exact rfl; exact rfl; omega) | (apply WL.loadA tOk; exact rfl; exact rfl; exact rfl; exact rfl; exact rfl; (first | assumption | (focus (apply Cells.ext; rotate_left; assumption; (exact extA); done))); exact rfl) | (apply WL.guardF; exact rfl; exact rfl) | (apply WL.gD; exact rfl; exact rfl; all_goals intro _) | (apply WL.gN; exact rfl; exact rfl; all_goals intro _) | (apply WL.gB; exact rfl; exact rfl; all_goals intro _))
      | (show Z _ _ _ _ _; first | apply Z.tail | apply Z.then_normal | apply Z.block_normal | apply Z.then_exit | apply Z.block_exit | apply Z.then_ret | apply Z.block_ret | (apply Z.block_other; exact rfl))
      | (show W _ _ _ _ _ _; first | apply W.seq | apply W.region | apply W.block | apply W.skip | apply W.ret | apply W.exit))
    by_cases h0 : lackG c.gates.2.2 [] g = 0
    · refine W.condKT rfl (dec_true (by omega)) ?_
      have hnp : ¬ pA k lk (k : Int) := fun ⟨q, q1, q2, q3⟩ => by omega
      repeat' (first
        | (((show WL _ _ _ (⟨_, .call ⟨.value (.func 83), _, _⟩, _, _, _, _⟩ :: _) _ _ _); apply WL.call; exact rfl; exact rfl; exact rfl; exact rfl; exact heap_Push w9 wc gh F t A _ (pA k lk) hB9 (by omega) k (by omega) hnp; rintro v' w10 ⟨rfl, t1, A1, hB10⟩))
        | (show WL _ _ _ _ _ _ _; first | apply WL.nil | (apply WL.pev tOk; exact rfl; exact rfl; exact rfl) | (apply WL.load tOk; exact rfl; exact rfl; exact rfl; exact rfl; exact rfl; (first | assumption | (focus (apply Ext.cell; rotate_left; assumption; (exact extA); done)))) | (apply WL.index tOk; exact rfl; exact rfl; exact rfl; exact rfl; exact rfl; exact rfl; exact rfl; exact rfl; assumption; (exact extA); exact rfl; omega; assumption; intro b off h; have hcc := h; first | (obtain ⟨h1, h2, h3, h4, h5, h6, _⟩ := h) | (obtain ⟨h1, h2, h3, _⟩ := h) | (obtain ⟨h1, h2, _⟩ := h) | (obtain ⟨h1, _⟩ := h)) | (apply WL.add; exact rfl; exact rfl; exact rfl; exact rfl; omega) | (apply WL.sub; exact rfl; exact rfl; exact rfl; exact rfl; omega) | (apply WL.mul; exact rfl; exact rfl; exact rfl; exact rfl; omega) | (apply WL.quo; exact rfl; exact rfl; exact rfl; exact rfl; omega) | (apply WL.rem; exact rfl; exact rfl; exact rfl; exact rfl; omega) | (apply WL.loadA tOk; exact rfl; exact rfl; exact rfl; exact rfl; exact rfl; (first | assumption | (focus (apply Cells.ext; rotate_left; assumption; (exact extA); done))); exact rfl) | (apply WL.guardF; exact rfl; exact rfl) | (apply WL.gD; exact rfl; exact rfl; all_goals intro _) | (apply WL.gN; exact rfl; exact rfl; all_goals intro _) | (apply WL.gB; exact rfl; exact rfl; all_goals intro _))
        | (show Z _ _ _ _ _; first | apply Z.tail | apply Z.then_normal | apply Z.block_normal | apply Z.then_exit | apply Z.block_exit | apply Z.then_ret | apply Z.block_ret | (apply Z.block_other; exact rfl))
        | (show W _ _ _ _ _ _; first | apply W.seq | apply W.region | apply W.block | apply W.skip | apply W.ret | apply W.exit))
      exact Z.againW ⟨by omega, _, _, _, t1, A1, hB10.mono (fun x => pA_push (by rw [hnow, h0]; rfl) x), hI9⟩ ⟨rfl, rfl, rfl, rfl, rfl, rfl, rfl, rfl, trivial⟩
    · refine W.condKF rfl (dec_false (by omega)) ?_
      repeat' (first
        | (show WL _ _ _ _ _ _ _; first | apply WL.nil | (apply WL.pev tOk; exact rfl; exact rfl; exact rfl) | (apply WL.load tOk; exact rfl; exact rfl; exact rfl; exact rfl; exact rfl; (first | assumption | (focus (apply Ext.cell; rotate_left; assumption; (exact extA); done)))) | (apply WL.index tOk; exact rfl; exact rfl; exact rfl; exact rfl; exact rfl; exact rfl; exact rfl; exact rfl; assumption; (exact extA); exact rfl; omega; assumption; intro b off h; have hcc := h; first | (obtain ⟨h1, h2, h3, h4, h5, h6, _⟩ := h) | (obtain ⟨h1, h2, h3, _⟩ := h) | (obtain ⟨h1, h2, _⟩ := h) | (obtain ⟨h1, _⟩ := h)) | (apply WL.add; exact rfl; exact rfl; exact rfl; exact rfl; omega) | (apply WL.sub; exact rfl; exact rfl; exact rfl; exact rfl; omega) | (apply WL.mul; exact rfl; exact rfl; exact rfl; exact rfl; omega) | (apply WL.quo; exact rfl; exact rfl; exact rfl; exact rfl; omega) | (apply WL.rem; exact rfl; exact rfl; exact rfl; exact rfl; omega) | (apply WL.loadA tOk; exact rfl; exact rfl; exact rfl; exact rfl; exact rfl; (first | assumption | (focus (apply Cells.ext; rotate_left; assumption; (exact extA); done))); exact rfl) | (apply WL.guardF; exact rfl; exact rfl) | (apply WL.gD; exact rfl; exact rfl; all_goals intro _) | (apply WL.gN; exact rfl; exact rfl; all_goals intro _) | (apply WL.gB; exact rfl; exact rfl; all_goals intro _))
        | (show Z _ _ _ _ _; first | apply Z.tail | apply Z.then_normal | apply Z.block_normal | apply Z.then_exit | apply Z.block_exit | apply Z.then_ret | apply Z.block_ret | (apply Z.block_other; exact rfl))
        | (show W _ _ _ _ _ _; first | apply W.seq | apply W.region | apply W.block | apply W.skip | apply W.ret | apply W.exit))
      exact Z.againW ⟨by omega, _, _, _, t, A, hB9.mono (fun x => pA_next hnow (by omega) x), hI9⟩ ⟨rfl, rfl, rfl, rfl, rfl, rfl, rfl, rfl, trivial⟩
  obtain rfl : k = n := by omega
  repeat' (first
    | (show WL _ _ _ _ _ _ _; first | apply WL.nil | (apply WL.pev tOk; exact rfl; exact rfl; exact rfl) | (apply WL.load tOk; exact rfl; exact rfl; exact rfl; exact rfl; exact rfl; (first | assumption | (focus (apply Ext.cell; rotate_left; assumption; (exact extA); done)))) | (apply WL.index tOk; exact rfl; exact rfl; exact rfl; exact rfl; exact rfl; exact rfl; exact rfl; exact rfl; assumption; (exact extA); exact rfl; omega; assumption; intro b off h; have hcc := h; first | (obtain ⟨h1, h2, h3, h4, h5, h6, _⟩ := h) | (obtain ⟨h1, h2, h3, _⟩ := h) | (obtain ⟨h1, h2, _⟩ := h) | (obtain ⟨h1, _⟩ := h)) | (apply WL.add; exact rfl; exact rfl; exact rfl; exact rfl; omega) | (apply WL.sub; exact rfl; exact rfl; exact rfl; exact rfl; omega) | (apply WL.mul; exact rfl; exact rfl; exact rfl; exact rfl; omega) | (apply WL.quo; exact rfl; exact rfl; exact rfl; exact rfl; omega) | (apply WL.rem; exact rfl; exact rfl; exact rfl; exact rfl; omega) | (apply WL.loadA tOk; exact rfl; exact rfl; exact rfl; exact rfl; exact rfl; (first | assumption | (focus (apply Cells.ext; rotate_left; assumption; (exact extA); done))); exact rfl) | (apply WL.guardF; exact rfl; exact rfl) | (apply WL.gD; exact rfl; exact rfl; all_goals intro _) | (apply WL.gN; exact rfl; exact rfl; all_goals intro _) | (apply WL.gB; exact rfl; exact rfl; all_goals intro _))
    | (show Z _ _ _ _ _; first | apply Z.tail | apply Z.then_normal | apply Z.block_normal | apply Z.then_exit | apply Z.block_exit | apply Z.then_ret | apply Z.block_ret | (apply Z.block_other; exact rfl))
    | (show W _ _ _ _ _ _; first | apply W.seq | apply W.region | apply W.block | apply W.skip | apply W.ret | apply W.exit))
  refine W.condKF rfl (dec_false (by omega)) ?_
  have hll6 := hI6.llen
  have hB7 := hB6.mono (fun x => pA_all (show lk.length = k by omega) x)
  have hSB : StB c.gates.2.2 [] [] lk := ⟨hI6.llen, fun q x hx => by rw [hI6.old q x hx (by have := lt_of_get hx; omega)]; simp⟩
  have hrows : ∀ (q : Nat) (y : G3), c.gates.2.2[q]? = some y → ∃ r, rs[q]? = some r ∧ r.2.2 = abv c.gates.2.2 y c.gates.2.2.length := by
    rw [hnn]; exact hI6.row
  have hrl6 := hI6.rlen
  have start : ∀ (L : List Nat) (lk : List Int) (ya : Int), StB c.gates.2.2 L [] lk → pH L lk ya → (∀ x, pH L lk x → ya ≤ x) → ∃ i : Nat, ya = (i : Int) ∧ Least c.gates.2.2 L i := fun L lk ya hS hp hm => by
    obtain ⟨i, rfl, hr⟩ := (hS.rdy ya).1 hp
    exact ⟨i, rfl, hr, fun j hj => by have := hm (j : Int) ((hS.rdy _).2 ⟨j, rfl, hj⟩); omega⟩
  repeat' (first
    | (((show WL _ _ _ (⟨_, .call ⟨.value (.func 84), _, _⟩, _, _, _, _⟩ :: _) _ _ _); apply WL.call; exact rfl; exact rfl; exact rfl; exact rfl; exact heap_PopO w6 wc gh F t A _ (pH [] lk) hB7 (by omega); rintro v' w7 ⟨nx, rfl, hnx1, hnx2, t1, A1, hB8⟩))
    | (show WL _ _ _ _ _ _ _; first | apply WL.nil | (apply WL.pev tOk; exact rfl; exact rfl; exact rfl) | (apply WL.load tOk; exact rfl; exact rfl; exact rfl; exact rfl; exact rfl; (first | assumption | (focus (apply Ext.cell; rotate_left; assumption; (exact extA); done)))) | (apply WL.index tOk; exact rfl; exact rfl; exact rfl; exact rfl; exact rfl; exact rfl; exact rfl; exact rfl; assumption; (exact extA); exact rfl; omega; assumption; intro b off h; have hcc := h; first | (obtain ⟨h1, h2, h3, h4, h5, h6, _⟩ := h) | (obtain ⟨h1, h2, h3, _⟩ := h) | (obtain ⟨h1, h2, _⟩ := h) | (obtain ⟨h1, _⟩ := h)) | (apply WL.add; exact rfl; exact rfl; exact rfl; exact rfl; omega) | (apply WL.sub; exact rfl; exact rfl; exact rfl; exact rfl; omega) | (apply WL.mul; exact rfl; exact rfl; exact rfl; exact rfl; omega) | (apply WL.quo; exact rfl; exact rfl; exact rfl; exact rfl; omega) | (apply WL.rem; exact rfl; exact rfl; exact rfl; exact rfl; omega) | (apply WL.loadA tOk; exact rfl; exact rfl; exact rfl; exact rfl; exact rfl; (first | assumption | (focus (apply Cells.ext; rotate_left; assumption; (exact extA); done))); exact rfl) | (apply WL.guardF; exact rfl; exact rfl) | (apply WL.gD; exact rfl; exact rfl; all_goals intro _) | (apply WL.gN; exact rfl; exact rfl; all_goals intro _) | (apply WL.gB; exact rfl; exact rfl; all_goals intro _))
    | (show Z _ _ _ _ _; first | apply Z.tail | apply Z.then_normal | apply Z.block_normal | apply Z.then_exit | apply Z.block_exit | apply Z.then_ret | apply Z.block_ret | (apply Z.block_other; exact rfl))
    | (show W _ _ _ _ _ _; first | apply W.seq | apply W.region | apply W.block | apply W.skip | apply W.ret | apply W.exit))
  refine W.loop (σ := List Nat × Option Int × Option Addr × Nat × World) (fun s => PreOrd c.gates.2.2 s.1 ∧ ∃ lk t A, HpB wc s.2.2.2.2 gh F (rst wc.heap.size (some ⟨gl, 0, none⟩) k lk (some ⟨go, 0, none⟩) k rs rm (plcM c.gates.2.2 k) s.2.2.1 s.2.2.2.1 (natI s.1) lit rs) t A (fun x => pH s.1 lk x ∧ ∀ y, s.2.1 = some y → x ≠ y) ∧ StB c.gates.2.2 s.1 [] lk ∧ (∀ y, s.2.1 = some y → pH s.1 lk y ∧ ∀ x, pH s.1 lk x → y ≤ x) ∧ (s.2.1 = none → ∀ x, ¬ pH s.1 lk x)) (fun s => [(6, .slice (some ⟨gl, 0, none⟩) k k), (7, .slice (some ⟨go, 0, none⟩) k k), (8, .pointer (some ⟨gh, 0, none⟩)), (15, .slice s.2.2.1 (natI s.1).length s.2.2.2.1), (16, .int .i64 (s.2.1.getD 0)), (17, .bool s.2.1.isSome)]) (fun s => s.2.2.2.2) (fun s => c.gates.2.2.length + 1 - s.1.length) ([], nx, none, 0, w7) ⟨PreOrd.nil _, lk, t1, A1, hB8, hSB, hnx1, hnx2⟩ ⟨rfl, rfl, rfl, rfl, rfl, rfl, trivial⟩ rfl ?_
  clear hB7 hB8 hSB hnx1 hnx2 hB6 hI6 hX6 hll6
  rintro ⟨L, nx, ou, cu, w8⟩ ⟨hP, lk, t, A, hB8, hSB, hn1, hn2⟩
  dsimp only at hP hB8 hSB hn1 hn2 ⊢
  have hX8 := hB8.ext
  have hLle := hP.le
  cases nx with
  | none =>
    repeat' (first
      | (show WL _ _ _ _ _ _ _; first | apply WL.nil | (apply WL.pev tOk; exact rfl; exact rfl; exact rfl) | (apply WL.load tOk; exact rfl; exact rfl; exact rfl; exact rfl; exact rfl; (first | assumption | (focus (apply Ext.cell; rotate_left; assumption; (exact extA); done)))) | (apply WL.index tOk; exact rfl; exact rfl; exact rfl; exact rfl; exact rfl; exact rfl; exact rfl; exact rfl; assumption; (exact extA); exact rfl; omega; assumption; intro b off h; have hcc := h; first | (obtain ⟨h1, h2, h3, h4, h5, h6, _⟩ := h) | (obtain ⟨h1, h2, h3, _⟩ := h) | (obtain ⟨h1, h2, _⟩ := h) | (obtain ⟨h1, _⟩ := h)) | (apply WL.add; exact rfl; exact rfl; exact rfl; exact rfl; omega) | (apply WL.sub; exact rfl; exact rfl; exact rfl; exact rfl; omega) | (apply WL.mul; exact rfl; exact rfl; exact rfl; exact rfl; omega) | (apply WL.quo; exact rfl; exact rfl; exact rfl; exact rfl; omega) | (apply WL.rem; exact rfl; exact rfl; exact rfl; exact rfl; omega) | (apply WL.loadA tOk; exact rfl; exact rfl; exact rfl; exact rfl; exact rfl; (first | assumption | (focus (apply Cells.ext; rotate_left; assumption; (exact extA); done))); exact rfl) | (apply WL.guardF; exact rfl; exact rfl) | (apply WL.gD; exact rfl; exact rfl; all_goals intro _) | (apply WL.gN; exact rfl; exact rfl; all_goals intro _) | (apply WL.gB; exact rfl; exact rfl; all_goals intro _))
      | (show Z _ _ _ _ _; first | apply Z.tail | apply Z.then_normal | apply Z.block_normal | apply Z.then_exit | apply Z.block_exit | apply Z.then_ret | apply Z.block_ret | (apply Z.block_other; exact rfl))
      | (show W _ _ _ _ _ _; first | apply W.seq | apply W.region | apply W.block | apply W.skip | apply W.ret | apply W.exit))
    refine W.condKF rfl rfl ?_
    repeat' (first
      | (show WL _ _ _ _ _ _ _; first | apply WL.nil | (apply WL.pev tOk; exact rfl; exact rfl; exact rfl) | (apply WL.load tOk; exact rfl; exact rfl; exact rfl; exact rfl; exact rfl; (first | assumption | (focus (apply Ext.cell; rotate_left; assumption; (exact extA); done)))) | (apply WL.index tOk; exact rfl; exact rfl; exact rfl; exact rfl; exact rfl; exact rfl; exact rfl; exact rfl; assumption; (exact extA); exact rfl; omega; assumption; intro b off h; have hcc := h; first | (obtain ⟨h1, h2, h3, h4, h5, h6, _⟩ := h) | (obtain ⟨h1, h2, h3, _⟩ := h) | (obtain ⟨h1, h2, _⟩ := h) | (obtain ⟨h1, _⟩ := h)) | (apply WL.add; exact rfl; exact rfl; exact rfl; exact rfl; omega) | (apply WL.sub; exact rfl; exact rfl; exact rfl; exact rfl; omega) | (apply WL.mul; exact rfl; exact rfl; exact rfl; exact rfl; omega) | (apply WL.quo; exact rfl; exact rfl; exact rfl; exact rfl; omega) | (apply WL.rem; exact rfl; exact rfl; exact rfl; exact rfl; omega) | (apply WL.loadA tOk; exact rfl; exact rfl; exact rfl; exact rfl; exact rfl; (first | assumption | (focus (apply Cells.ext; rotate_left; assumption; (exact extA); done))); exact rfl) | (apply WL.guardF; exact rfl; exact rfl) | (apply WL.gD; exact rfl; exact rfl; all_goals intro _) | (apply WL.gN; exact rfl; exact rfl; all_goals intro _) | (apply WL.gB; exact rfl; exact rfl; all_goals intro _))
      | (show Z _ _ _ _ _; first | apply Z.tail | apply Z.then_normal | apply Z.block_normal | apply Z.then_exit | apply Z.block_exit | apply Z.then_ret | apply Z.block_ret | (apply Z.block_other; exact rfl))
      | (show W _ _ _ _ _ _; first | apply W.seq | apply W.region | apply W.block | apply W.skip | apply W.ret | apply W.exit))
    obtain ⟨hX9, ⟨hat, hze, as_, cs, tr, ct, ap, cp, hS⟩, hO9, hm9⟩ := hB8
    have hOut := hS.row (i := 7) rfl
    have hLo : L = ordL c.gates.2.2 := IsOrd.ord ⟨hP, fun q hq => hn2 rfl (q : Int) ((hSB.rdy _).2 ⟨q, rfl, hq⟩)⟩
    exact Z.body1 Try.results35 rfl fun m => ⟨hxc.trans (Ext.at hX8 m), ou, cu, by rw [← hLo], by rw [← hLo]; exact (hOut.base hwc).ext ((Ext.refl _).at m)⟩
  | some ya =>
    obtain ⟨i, rfl, hle⟩ := start L lk ya hSB (hn1 ya rfl).1 (hn1 ya rfl).2
    obtain ⟨y, hy, hiL, hself⟩ := hle.1
    have hself := rdy_self hle.1 hy
    have hik := lt_of_get hy
    obtain ⟨r, hr, hrv⟩ := hrows i y hy
    repeat' (first
      | (show WL _ _ _ _ _ _ _; first | apply WL.nil | (apply WL.pev tOk; exact rfl; exact rfl; exact rfl) | (apply WL.load tOk; exact rfl; exact rfl; exact rfl; exact rfl; exact rfl; (first | assumption | (focus (apply Ext.cell; rotate_left; assumption; (exact extA); done)))) | (apply WL.index tOk; exact rfl; exact rfl; exact rfl; exact rfl; exact rfl; exact rfl; exact rfl; exact rfl; assumption; (exact extA); exact rfl; omega; assumption; intro b off h; have hcc := h; first | (obtain ⟨h1, h2, h3, h4, h5, h6, _⟩ := h) | (obtain ⟨h1, h2, h3, _⟩ := h) | (obtain ⟨h1, h2, _⟩ := h) | (obtain ⟨h1, _⟩ := h)) | (apply WL.add; exact rfl; exact rfl; exact rfl; exact rfl; omega) | (apply WL.sub; exact rfl; exact rfl; exact rfl; exact rfl; omega) | (apply WL.mul; exact rfl; exact rfl; exact rfl; exact rfl; omega) | (apply WL.quo; exact rfl; exact rfl; exact rfl; exact rfl; omega) | (apply WL.rem; exact rfl; exact rfl; exact rfl; exact rfl; omega) | (apply WL.loadA tOk; exact rfl; exact rfl; exact rfl; exact rfl; exact rfl; (first | assumption | (focus (apply Cells.ext; rotate_left; assumption; (exact extA); done))); exact rfl) | (apply WL.guardF; exact rfl; exact rfl) | (apply WL.gD; exact rfl; exact rfl; all_goals intro _) | (apply WL.gN; exact rfl; exact rfl; all_goals intro _) | (apply WL.gB; exact rfl; exact rfl; all_goals intro _))
      | (show Z _ _ _ _ _; first | apply Z.tail | apply Z.then_normal | apply Z.block_normal | apply Z.then_exit | apply Z.block_exit | apply Z.then_ret | apply Z.block_ret | (apply Z.block_other; exact rfl))
      | (show W _ _ _ _ _ _; first | apply W.seq | apply W.region | apply W.block | apply W.skip | apply W.ret | apply W.exit))
    refine W.condKT rfl rfl ?_
    refine W.sub [(6, .slice (some ⟨gl, 0, none⟩) k k), (7, .slice (some ⟨go, 0, none⟩) k k), (8, .pointer (some ⟨gh, 0, none⟩)), (15, .slice ou (natI L).length cu), (16, .int .i64 ((i : Nat) : Int))] ⟨rfl, rfl, rfl, rfl, rfl, trivial⟩ ?_
    obtain ⟨hX9, ⟨hat, hze, as_, cs, tr, ct, ap, cp, hS⟩, hO9, hm9⟩ := hB8
    have hOut := hS.row (i := 7) rfl
    have hnl : (natI L).length = L.length := List.length_map _
    repeat' (first
      | (apply WL.lit tOk; exact rfl; exact rfl; exact rfl; exact rfl; exact rfl; exact rfl; (first | exact rfl | kernel_rfl | (simp [Instr.fill, catCells]; done)); exact rfl; intro gb w' hb hge hc hx)
      | (apply WL.append1 (z := (((i : Nat) : Int))) tOk encI_ok; exact rfl; exact rfl; exact rfl; exact rfl; exact rfl; exact rfl; exact rfl; exact rfl; exact rfl; exact rfl; assumption; (exact extA); (first | exact rfl | (focus (simp only [List.length_set]; done)) | (focus (simp; done)) | (focus (simp [*]; done)) | omega | (focus (simp only [List.length_set]; omega))); assumption; exact rfl; exact rfl; (exact extA); (first | omega | (simp; omega) | (simp at *; omega)); intro a' cap' w' hO hX' hU hF)
      | (show WL _ _ _ _ _ _ _; first | apply WL.nil | (apply WL.pev tOk; exact rfl; exact rfl; exact rfl) | (apply WL.load tOk; exact rfl; exact rfl; exact rfl; exact rfl; exact rfl; (first | assumption | (focus (apply Ext.cell; rotate_left; assumption; (exact extA); done)))) | (apply WL.index tOk; exact rfl; exact rfl; exact rfl; exact rfl; exact rfl; exact rfl; exact rfl; exact rfl; assumption; (exact extA); exact rfl; omega; assumption; intro b off h; have hcc := h; first | (obtain ⟨h1, h2, h3, h4, h5, h6, _⟩ := h) | (obtain ⟨h1, h2, h3, _⟩ := h) | (obtain ⟨h1, h2, _⟩ := h) | (obtain ⟨h1, _⟩ := h)) | (apply WL.add; exact rfl; exact rfl; exact rfl; exact rfl; omega) | (apply WL.sub; exact rfl; exact rfl; exact rfl; exact rfl; omega) | (apply WL.mul; exact rfl; exact rfl; exact rfl; exact rfl; omega) | (apply WL.quo; exact rfl; exact rfl; exact rfl; exact rfl; omega) | (apply WL.rem; exact rfl; exact rfl; exact rfl; exact rfl; omega) | (apply WL.loadA tOk; exact rfl; exact rfl; exact rfl; exact rfl; exact rfl; (first | assumption | (focus (apply Cells.ext; rotate_left; assumption; (exact extA); done))); exact rfl) | (apply WL.guardF; exact rfl; exact rfl) | (apply WL.gD; exact rfl; exact rfl; all_goals intro _) | (apply WL.gN; exact rfl; exact rfl; all_goals intro _) | (apply WL.gB; exact rfl; exact rfl; all_goals intro _))
      | (show Z _ _ _ _ _; first | apply Z.tail | apply Z.then_normal | apply Z.block_normal | apply Z.then_exit | apply Z.block_exit | apply Z.then_ret | apply Z.block_ret | (apply Z.block_other; exact rfl))
      | (show W _ _ _ _ _ _; first | apply W.seq | apply W.region | apply W.block | apply W.skip | apply W.ret | apply W.exit))
    obtain ⟨w9, rfl⟩ : ∃ x, x = w' := ⟨_, rfl⟩; obtain ⟨ou2, rfl⟩ : ∃ x, x = a' := ⟨_, rfl⟩; obtain ⟨cu2, rfl⟩ : ∃ x, x = cap' := ⟨_, rfl⟩
    have hnat : natI L ++ [((i : Nat) : Int)] = natI (L ++ [i]) := by simp [natI]
    have hS1 : Lt.Sep wc.heap.size w9 (hpP wc.heap.size gh as_ cs F tr ct t.length t ap cp A ++ rst wc.heap.size (some ⟨gl, 0, none⟩) k lk (some ⟨go, 0, none⟩) k rs rm (plcM c.gates.2.2 k) ou2 cu2 (natI (L ++ [i])) lit rs) := by
      rw [← hnat]; exact Sep.updRow (i := 7) rfl hU hO hF hS (by (exact extA)) (Below.size (by (exact extA)))
    have hX9' : Ext wc w9 := (by (exact extA))
    have hOu := hS1.row (i := 5) rfl
    have hRk : rs[((i : Nat) : Int).toNat]? = some r := by rw [Int.toNat_natCast]; exact hr
    rw [hnat]
    have hrl6' : rs.length = k := by omega
    repeat' (first
      | (apply WL.indexO tOk; exact rfl; exact rfl; exact rfl; exact rfl; exact rfl; exact rfl; exact rfl; exact rfl; assumption; (exact extA); exact encRow_ok; (first | exact rfl | (focus (simp only [List.length_set]; done)) | (focus (simp; done)) | (focus (simp [*]; done)) | omega | (focus (simp only [List.length_set]; omega))); omega; assumption; intro gb ha hc; cases ha; have hcc := hc; first | (obtain ⟨h1, h2, h3, _⟩ := hc) | (obtain ⟨h1, h2, _⟩ := hc) | (obtain ⟨h1, _⟩ := hc))
      | (show WL _ _ _ _ _ _ _; first | apply WL.nil | (apply WL.pev tOk; exact rfl; exact rfl; exact rfl) | (apply WL.load tOk; exact rfl; exact rfl; exact rfl; exact rfl; exact rfl; (first | assumption | (focus (apply Ext.cell; rotate_left; assumption; (exact extA); done)))) | (apply WL.index tOk; exact rfl; exact rfl; exact rfl; exact rfl; exact rfl; exact rfl; exact rfl; exact rfl; assumption; (exact extA); exact rfl; omega; assumption; intro b off h; have hcc := h; first | (obtain ⟨h1, h2, h3, h4, h5, h6, _⟩ := h) | (obtain ⟨h1, h2, h3, _⟩ := h) | (obtain ⟨h1, h2, _⟩ := h) | (obtain ⟨h1, _⟩ := h)) | (apply WL.add; exact rfl; exact rfl; exact rfl; exact rfl; omega) | (apply WL.sub; exact rfl; exact rfl; exact rfl; exact rfl; omega) | (apply WL.mul; exact rfl; exact rfl; exact rfl; exact rfl; omega) | (apply WL.quo; exact rfl; exact rfl; exact rfl; exact rfl; omega) | (apply WL.rem; exact rfl; exact rfl; exact rfl; exact rfl; omega) | (apply WL.loadA tOk; exact rfl; exact rfl; exact rfl; exact rfl; exact rfl; (first | assumption | (focus (apply Cells.ext; rotate_left; assumption; (exact extA); done))); exact rfl) | (apply WL.guardF; exact rfl; exact rfl) | (apply WL.gD; exact rfl; exact rfl; all_goals intro _) | (apply WL.gN; exact rfl; exact rfl; all_goals intro _) | (apply WL.gB; exact rfl; exact rfl; all_goals intro _))
      | (show Z _ _ _ _ _; first | apply Z.tail | apply Z.then_normal | apply Z.block_normal | apply Z.then_exit | apply Z.block_exit | apply Z.then_ret | apply Z.block_ret | (apply Z.block_other; exact rfl))
      | (show W _ _ _ _ _ _; first | apply W.seq | apply W.region | apply W.block | apply W.skip | apply W.ret | apply W.exit))
    have hYl : r.2.2.length ≤ 2 * k := by rw [hrv, hnn]; exact abv_len _ _ _
    have hm9' : ∀ x, x ∈ t ↔ pH (L ++ [i]) lk x := fun x => ((hm9 x).trans ⟨fun ⟨h1, h2⟩ => ⟨h1, h2 _ rfl⟩, fun ⟨h1, h2⟩ => ⟨h1, fun y hy => by cases hy; exact h2⟩⟩).trans (pH_out x)
    refine W.loopW r.2.2.length (fun m w' => m ≤ r.2.2.length ∧ ∃ lk t A, HpB wc w' gh F (rst wc.heap.size (some ⟨gl, 0, none⟩) k lk (some ⟨go, 0, none⟩) k rs rm (plcM c.gates.2.2 k) ou2 cu2 (natI (L ++ [i])) lit rs) t A (pH (L ++ [i]) lk) ∧ StB c.gates.2.2 L (r.2.2.take m) lk) (fun m => [(6, .slice (some ⟨gl, 0, none⟩) k k), (7, .slice (some ⟨go, 0, none⟩) k k), (8, .pointer (some ⟨gh, 0, none⟩)), (15, .slice ou2 (natI (L ++ [i])).length cu2), (117, .slice r.1 r.2.2.length r.2.1), (118, .int .i64 (r.2.2.length : Nat)), (119, .int .i64 m)]) ⟨Nat.zero_le _, lk, t, A, ⟨hX9', ⟨hat, hze, as_, cs, tr, ct, ap, cp, hS1⟩, hO9, hm9'⟩, by rw [List.take_zero]; exact hSB⟩ (fun m w' h => h.1) ⟨rfl, rfl, rfl, rfl, rfl, rfl, rfl, trivial⟩ ?_
    have hPi := hP.push hle
    clear hSB hS hS1 hO9 hm9 hm9' hat hze hOut hOu hO hX9 hX9' hn1 hn2
    rintro m w10 ⟨hm, lk, t, A, hB10, hSB⟩
    have hX10 := hB10.ext
    by_cases hml : m < r.2.2.length
    · obtain ⟨z, hgz⟩ := getI r.2.2 hml
      have hgz' := hgz
      rw [hrv] at hgz'
      obtain ⟨kk, g, rfl, hkk, hg, hh⟩ := abv_mem (List.mem_of_getElem? hgz')
      rw [hrv] at hSB
      obtain ⟨v, hv, hv1, hv2, hSB2⟩ := hSB.step ho hy hiL hg hgz'
      rw [← hrv] at hSB2
      have hkL : kk ∉ L ++ [i] := fun hm2 => by
        rcases List.mem_append.1 hm2 with h | h
        · exact not_told hP hy hg hh hiL h
        · obtain rfl := List.mem_singleton.1 h
          rw [hy] at hg; cases hg; omega
      have hB10' := hB10
      obtain ⟨_, ⟨hat, hze, as_, cs, tr, ct, ap, cp, hS⟩, hO9, hm9⟩ := hB10'
      have RL := (hS.row (rst_in hr _ rfl)).row encI_ok
      have hLo := hS.row (i := 4) rfl
      have hlk3 := hSB.llen
      have hLn : lk.length = k := by omega
      have hvk : lk[((kk : Nat) : Int).toNat]? = some v := by rw [Int.toNat_natCast]; exact hv
      have hvs : (lk.set ((kk : Nat) : Int).toNat (v - 1))[((kk : Nat) : Int).toNat]? = some (v - 1) := List.getElem?_set_self (by rw [Int.toNat_natCast]; omega)
      repeat' (first
        | (show WL _ _ _ _ _ _ _; first | apply WL.nil | (apply WL.pev tOk; exact rfl; exact rfl; exact rfl) | (apply WL.load tOk; exact rfl; exact rfl; exact rfl; exact rfl; exact rfl; (first | assumption | (focus (apply Ext.cell; rotate_left; assumption; (exact extA); done)))) | (apply WL.index tOk; exact rfl; exact rfl; exact rfl; exact rfl; exact rfl; exact rfl; exact rfl; exact rfl; assumption; (exact extA); exact rfl; omega; assumption; intro b off h; have hcc := h; first | (obtain ⟨h1, h2, h3, h4, h5, h6, _⟩ := h) | (obtain ⟨h1, h2, h3, _⟩ := h) | (obtain ⟨h1, h2, _⟩ := h) | (obtain ⟨h1, _⟩ := h)) | (apply WL.add; exact rfl; exact rfl; exact rfl; exact rfl; omega) | (apply WL.sub; exact rfl; exact rfl; exact rfl; exact rfl; omega) | (apply WL.mul; exact rfl; exact rfl; exact rfl; exact rfl; omega) | (apply WL.quo; exact rfl; exact rfl; exact rfl; exact rfl; omega) | (apply WL.rem; exact rfl; exact rfl; exact rfl; exact rfl; omega) | (apply WL.loadA tOk; exact rfl; exact rfl; exact rfl; exact rfl; exact rfl; (first | assumption | (focus (apply Cells.ext; rotate_left; assumption; (exact extA); done))); exact rfl) | (apply WL.guardF; exact rfl; exact rfl) | (apply WL.gD; exact rfl; exact rfl; all_goals intro _) | (apply WL.gN; exact rfl; exact rfl; all_goals intro _) | (apply WL.gB; exact rfl; exact rfl; all_goals intro _))
        | (show Z _ _ _ _ _; first | apply Z.tail | apply Z.then_normal | apply Z.block_normal | apply Z.then_exit | apply Z.block_exit | apply Z.then_ret | apply Z.block_ret | (apply Z.block_other; exact rfl))
        | (show W _ _ _ _ _ _; first | apply W.seq | apply W.region | apply W.block | apply W.skip | apply W.ret | apply W.exit))
      refine W.condKT rfl (dec_true (by omega)) ?_
      repeat' (first
        | (apply WL.indexO tOk; exact rfl; exact rfl; exact rfl; exact rfl; exact rfl; exact rfl; exact rfl; exact rfl; assumption; (exact extA); exact encI_ok; (first | exact rfl | (focus (simp only [List.length_set]; done)) | (focus (simp; done)) | (focus (simp [*]; done)) | omega | (focus (simp only [List.length_set]; omega))); omega; assumption; intro gb ha hc; cases ha; have hcc := hc; first | (obtain ⟨h1, h2, h3, _⟩ := hc) | (obtain ⟨h1, h2, _⟩ := hc) | (obtain ⟨h1, _⟩ := hc))
        | (apply WL.storeO (z' := (v - 1)) tOk; exact rfl; exact rfl; exact rfl; exact rfl; assumption; (exact extA); exact rfl; exact rfl; exact rfl; exact encI_ok; assumption; exact rfl; (exact extA); intro w' hO hX' hU)
        | (show WL _ _ _ _ _ _ _; first | apply WL.nil | (apply WL.pev tOk; exact rfl; exact rfl; exact rfl) | (apply WL.load tOk; exact rfl; exact rfl; exact rfl; exact rfl; exact rfl; (first | assumption | (focus (apply Ext.cell; rotate_left; assumption; (exact extA); done)))) | (apply WL.index tOk; exact rfl; exact rfl; exact rfl; exact rfl; exact rfl; exact rfl; exact rfl; exact rfl; assumption; (exact extA); exact rfl; omega; assumption; intro b off h; have hcc := h; first | (obtain ⟨h1, h2, h3, h4, h5, h6, _⟩ := h) | (obtain ⟨h1, h2, h3, _⟩ := h) | (obtain ⟨h1, h2, _⟩ := h) | (obtain ⟨h1, _⟩ := h)) | (apply WL.add; exact rfl; exact rfl; exact rfl; exact rfl; omega) | (apply WL.sub; exact rfl; exact rfl; exact rfl; exact rfl; omega) | (apply WL.mul; exact rfl; exact rfl; exact rfl; exact rfl; omega) | (apply WL.quo; exact rfl; exact rfl; exact rfl; exact rfl; omega) | (apply WL.rem; exact rfl; exact rfl; exact rfl; exact rfl; omega) | (apply WL.loadA tOk; exact rfl; exact rfl; exact rfl; exact rfl; exact rfl; (first | assumption | (focus (apply Cells.ext; rotate_left; assumption; (exact extA); done))); exact rfl) | (apply WL.guardF; exact rfl; exact rfl) | (apply WL.gD; exact rfl; exact rfl; all_goals intro _) | (apply WL.gN; exact rfl; exact rfl; all_goals intro _) | (apply WL.gB; exact rfl; exact rfl; all_goals intro _))
        | (show Z _ _ _ _ _; first | apply Z.tail | apply Z.then_normal | apply Z.block_normal | apply Z.then_exit | apply Z.block_exit | apply Z.then_ret | apply Z.block_ret | (apply Z.block_other; exact rfl))
        | (show W _ _ _ _ _ _; first | apply W.seq | apply W.region | apply W.block | apply W.skip | apply W.ret | apply W.exit))
      obtain ⟨w11, rfl⟩ : ∃ x, x = w' := ⟨_, rfl⟩
      have hS2 : Lt.Sep wc.heap.size w11 (hpP wc.heap.size gh as_ cs F tr ct t.length t ap cp A ++ rst wc.heap.size (some ⟨gl, 0, none⟩) k (lk.set ((kk : Nat) : Int).toNat (v - 1)) (some ⟨go, 0, none⟩) k rs rm (plcM c.gates.2.2 k) ou2 cu2 (natI (L ++ [i])) lit rs) := Sep.updRow (i := 4) rfl hU hO (.inl rfl) hS (Ext.refl _) (Below.size hX10)
      rw [Int.toNat_natCast] at hS2
      by_cases hv0 : v - 1 = 0
      · refine W.condKT rfl (dec_true hv0) ?_
        repeat' (first
          | (((show WL _ _ _ (⟨_, .call ⟨.value (.func 83), _, _⟩, _, _, _, _⟩ :: _) _ _ _); apply WL.call; exact rfl; exact rfl; exact rfl; exact rfl; exact heap_Push w11 wc gh F t A _ (pH (L ++ [i]) lk) ⟨hX', ⟨hat, hze, as_, cs, tr, ct, ap, cp, hS2⟩, hO9, hm9⟩ (by omega) kk (by omega) (pH_no hv hv1); rintro v' w12 ⟨rfl, t2, A2, hB12⟩))
          | (show WL _ _ _ _ _ _ _; first | apply WL.nil | (apply WL.pev tOk; exact rfl; exact rfl; exact rfl) | (apply WL.load tOk; exact rfl; exact rfl; exact rfl; exact rfl; exact rfl; (first | assumption | (focus (apply Ext.cell; rotate_left; assumption; (exact extA); done)))) | (apply WL.index tOk; exact rfl; exact rfl; exact rfl; exact rfl; exact rfl; exact rfl; exact rfl; exact rfl; assumption; (exact extA); exact rfl; omega; assumption; intro b off h; have hcc := h; first | (obtain ⟨h1, h2, h3, h4, h5, h6, _⟩ := h) | (obtain ⟨h1, h2, h3, _⟩ := h) | (obtain ⟨h1, h2, _⟩ := h) | (obtain ⟨h1, _⟩ := h)) | (apply WL.add; exact rfl; exact rfl; exact rfl; exact rfl; omega) | (apply WL.sub; exact rfl; exact rfl; exact rfl; exact rfl; omega) | (apply WL.mul; exact rfl; exact rfl; exact rfl; exact rfl; omega) | (apply WL.quo; exact rfl; exact rfl; exact rfl; exact rfl; omega) | (apply WL.rem; exact rfl; exact rfl; exact rfl; exact rfl; omega) | (apply WL.loadA tOk; exact rfl; exact rfl; exact rfl; exact rfl; exact rfl; (first | assumption | (focus (apply Cells.ext; rotate_left; assumption; (exact extA); done))); exact rfl) | (apply WL.guardF; exact rfl; exact rfl) | (apply WL.gD; exact rfl; exact rfl; all_goals intro _) | (apply WL.gN; exact rfl; exact rfl; all_goals intro _) | (apply WL.gB; exact rfl; exact rfl; all_goals intro _))
          | (show Z _ _ _ _ _; first | apply Z.tail | apply Z.then_normal | apply Z.block_normal | apply Z.then_exit | apply Z.block_exit | apply Z.then_ret | apply Z.block_ret | (apply Z.block_other; exact rfl))
          | (show W _ _ _ _ _ _; first | apply W.seq | apply W.region | apply W.block | apply W.skip | apply W.ret | apply W.exit))
        exact Z.againW ⟨by omega, _, t2, A2, hB12.mono (fun x => pH_zero hv hv1 hv0 hkL x), hSB2⟩ ⟨rfl, rfl, rfl, rfl, rfl, rfl, rfl, trivial⟩
      · refine W.condKF rfl (dec_false hv0) ?_
        repeat' (first
          | (show WL _ _ _ _ _ _ _; first | apply WL.nil | (apply WL.pev tOk; exact rfl; exact rfl; exact rfl) | (apply WL.load tOk; exact rfl; exact rfl; exact rfl; exact rfl; exact rfl; (first | assumption | (focus (apply Ext.cell; rotate_left; assumption; (exact extA); done)))) | (apply WL.index tOk; exact rfl; exact rfl; exact rfl; exact rfl; exact rfl; exact rfl; exact rfl; exact rfl; assumption; (exact extA); exact rfl; omega; assumption; intro b off h; have hcc := h; first | (obtain ⟨h1, h2, h3, h4, h5, h6, _⟩ := h) | (obtain ⟨h1, h2, h3, _⟩ := h) | (obtain ⟨h1, h2, _⟩ := h) | (obtain ⟨h1, _⟩ := h)) | (apply WL.add; exact rfl; exact rfl; exact rfl; exact rfl; omega) | (apply WL.sub; exact rfl; exact rfl; exact rfl; exact rfl; omega) | (apply WL.mul; exact rfl; exact rfl; exact rfl; exact rfl; omega) | (apply WL.quo; exact rfl; exact rfl; exact rfl; exact rfl; omega) | (apply WL.rem; exact rfl; exact rfl; exact rfl; exact rfl; omega) | (apply WL.loadA tOk; exact rfl; exact rfl; exact rfl; exact rfl; exact rfl; (first | assumption | (focus (apply Cells.ext; rotate_left; assumption; (exact extA); done))); exact rfl) | (apply WL.guardF; exact rfl; exact rfl) | (apply WL.gD; exact rfl; exact rfl; all_goals intro _) | (apply WL.gN; exact rfl; exact rfl; all_goals intro _) | (apply WL.gB; exact rfl; exact rfl; all_goals intro _))
          | (show Z _ _ _ _ _; first | apply Z.tail | apply Z.then_normal | apply Z.block_normal | apply Z.then_exit | apply Z.block_exit | apply Z.then_ret | apply Z.block_ret | (apply Z.block_other; exact rfl))
          | (show W _ _ _ _ _ _; first | apply W.seq | apply W.region | apply W.block | apply W.skip | apply W.ret | apply W.exit))
        exact Z.againW ⟨by omega, _, t, A, ⟨hX', ⟨hat, hze, as_, cs, tr, ct, ap, cp, hS2⟩, hO9, fun x => (hm9 x).trans (pH_dec hv hv1 hv0 x)⟩, hSB2⟩ ⟨rfl, rfl, rfl, rfl, rfl, rfl, rfl, trivial⟩
    obtain rfl : m = r.2.2.length := by omega
    rw [List.take_length, hrv] at hSB
    have hSB2 := hSB.next ho hy hiL
    repeat' (first
      | (show WL _ _ _ _ _ _ _; first | apply WL.nil | (apply WL.pev tOk; exact rfl; exact rfl; exact rfl) | (apply WL.load tOk; exact rfl; exact rfl; exact rfl; exact rfl; exact rfl; (first | assumption | (focus (apply Ext.cell; rotate_left; assumption; (exact extA); done)))) | (apply WL.index tOk; exact rfl; exact rfl; exact rfl; exact rfl; exact rfl; exact rfl; exact rfl; exact rfl; assumption; (exact extA); exact rfl; omega; assumption; intro b off h; have hcc := h; first | (obtain ⟨h1, h2, h3, h4, h5, h6, _⟩ := h) | (obtain ⟨h1, h2, h3, _⟩ := h) | (obtain ⟨h1, h2, _⟩ := h) | (obtain ⟨h1, _⟩ := h)) | (apply WL.add; exact rfl; exact rfl; exact rfl; exact rfl; omega) | (apply WL.sub; exact rfl; exact rfl; exact rfl; exact rfl; omega) | (apply WL.mul; exact rfl; exact rfl; exact rfl; exact rfl; omega) | (apply WL.quo; exact rfl; exact rfl; exact rfl; exact rfl; omega) | (apply WL.rem; exact rfl; exact rfl; exact rfl; exact rfl; omega) | (apply WL.loadA tOk; exact rfl; exact rfl; exact rfl; exact rfl; exact rfl; (first | assumption | (focus (apply Cells.ext; rotate_left; assumption; (exact extA); done))); exact rfl) | (apply WL.guardF; exact rfl; exact rfl) | (apply WL.gD; exact rfl; exact rfl; all_goals intro _) | (apply WL.gN; exact rfl; exact rfl; all_goals intro _) | (apply WL.gB; exact rfl; exact rfl; all_goals intro _))
      | (show Z _ _ _ _ _; first | apply Z.tail | apply Z.then_normal | apply Z.block_normal | apply Z.then_exit | apply Z.block_exit | apply Z.then_ret | apply Z.block_ret | (apply Z.block_other; exact rfl))
      | (show W _ _ _ _ _ _; first | apply W.seq | apply W.region | apply W.block | apply W.skip | apply W.ret | apply W.exit))
    refine W.condKF rfl (dec_false (by omega)) ?_
    repeat' (first
      | (((show WL _ _ _ (⟨_, .call ⟨.value (.func 84), _, _⟩, _, _, _, _⟩ :: _) _ _ _); apply WL.call; exact rfl; exact rfl; exact rfl; exact rfl; exact heap_PopO w10 wc gh F t A _ (pH (L ++ [i]) lk) hB10 (by omega); rintro v' w11 ⟨nx, rfl, hnx1, hnx2, t1, A1, hB11⟩))
      | (show WL _ _ _ _ _ _ _; first | apply WL.nil | (apply WL.pev tOk; exact rfl; exact rfl; exact rfl) | (apply WL.load tOk; exact rfl; exact rfl; exact rfl; exact rfl; exact rfl; (first | assumption | (focus (apply Ext.cell; rotate_left; assumption; (exact extA); done)))) | (apply WL.index tOk; exact rfl; exact rfl; exact rfl; exact rfl; exact rfl; exact rfl; exact rfl; exact rfl; assumption; (exact extA); exact rfl; omega; assumption; intro b off h; have hcc := h; first | (obtain ⟨h1, h2, h3, h4, h5, h6, _⟩ := h) | (obtain ⟨h1, h2, h3, _⟩ := h) | (obtain ⟨h1, h2, _⟩ := h) | (obtain ⟨h1, _⟩ := h)) | (apply WL.add; exact rfl; exact rfl; exact rfl; exact rfl; omega) | (apply WL.sub; exact rfl; exact rfl; exact rfl; exact rfl; omega) | (apply WL.mul; exact rfl; exact rfl; exact rfl; exact rfl; omega) | (apply WL.quo; exact rfl; exact rfl; exact rfl; exact rfl; omega) | (apply WL.rem; exact rfl; exact rfl; exact rfl; exact rfl; omega) | (apply WL.loadA tOk; exact rfl; exact rfl; exact rfl; exact rfl; exact rfl; (first | assumption | (focus (apply Cells.ext; rotate_left; assumption; (exact extA); done))); exact rfl) | (apply WL.guardF; exact rfl; exact rfl) | (apply WL.gD; exact rfl; exact rfl; all_goals intro _) | (apply WL.gN; exact rfl; exact rfl; all_goals intro _) | (apply WL.gB; exact rfl; exact rfl; all_goals intro _))
      | (show Z _ _ _ _ _; first | apply Z.tail | apply Z.then_normal | apply Z.block_normal | apply Z.then_exit | apply Z.block_exit | apply Z.then_ret | apply Z.block_ret | (apply Z.block_other; exact rfl))
      | (show W _ _ _ _ _ _; first | apply W.seq | apply W.region | apply W.block | apply W.skip | apply W.ret | apply W.exit))
    exact Z.again (L ++ [i], nx, ou2, cu2, w11) ⟨hPi, lk, t1, A1, hB11, hSB2, hnx1, hnx2⟩ (by have := hPi.le; simp only [List.length_append, List.length_singleton] at this ⊢; omega) ⟨rfl, rfl, rfl, rfl, rfl, rfl, trivial⟩ rfl
end Go.Proofs.Ytmaekaflpbenmaa
namespace Go.Lt
open Go.RowKit
set_option linter.unusedVariables false

theorem and1_any (a : Int) : IntKind.i64.wrap (BitVec.ofInt IntKind.i64.bits a &&& BitVec.ofInt IntKind.i64.bits 1).toNat = a % 2 := by
  show IntKind.i64.wrap (BitVec.ofInt 64 a &&& BitVec.ofInt 64 1).toNat = a % 2
  have h1 : (BitVec.ofInt 64 a &&& BitVec.ofInt 64 1).toNat = (BitVec.ofInt 64 a).toNat % 2 := by
    rw [BitVec.toNat_and, show (BitVec.ofInt 64 1).toNat = 1 from rfl, Nat.and_one_is_mod]
  have h2 : ((BitVec.ofInt 64 a).toNat : Int) = a % 18446744073709551616 := by
    rw [BitVec.toNat_ofInt]
    have : (0 : Int) ≤ a % ((2 ^ 64 : Nat) : Int) := Int.emod_nonneg _ (by decide)
    rw [Int.toNat_of_nonneg this]
    rfl
  rw [h1, IntWalk.i64_in _ (by omega)]
  omega
section rules
variable {P : Program} {N : Nat} {e : Env} {w : World} {Q : Exit → Act → World → Prop} {K : Act → World → Prop} {C : World → Prop} {ops : List Oper} {l : List Oper} {Kf : Act → Prop}
  {d : Nat} {tt t ty : TypeId} {ps : String} {af : Array Edge} {g : Option (Nat × Bool)} {x y : Operand} {a : Int}
theorem yandA {dd : Option Tmp} (hx : ev e x = some (.int .i64 a)) (hy : ev e y = some (.int .i64 1)) : Yields P e ⟨dd, .binOp .and t x y ty, tt, ps, af, g⟩ (.int .i64 (a % 2)) := by
  have := Yields.bin (P := P) (d := dd) (op := .and) (t := t) (ty := ty) (tt := tt) (ps := ps) (af := af) (g := g) hx hy (v := .int .i64 (IntKind.i64.wrap (BitVec.ofInt IntKind.i64.bits a &&& BitVec.ofInt IntKind.i64.bits 1).toNat)) rfl
  rwa [and1_any a] at this
theorem WL.andA (hg : gate ops e g = some true) (hd : Nat.blt d N = true) (hx : ev e x = some (.int .i64 a)) (hy : ev e y = some (.int .i64 1)) (k : WL P N ops.toArray l ((d, .int .i64 (a % 2)) :: e) w Q) : WL P N ops.toArray (⟨some d, .binOp .and t x y ty, tt, ps, af, g⟩ :: l) e w Q := WL.step hg hd (yandA hx hy).in k
theorem QL.andA (hg : gate ops e g = some true) (hd : Nat.blt d N = true) (hx : ev e x = some (.int .i64 a)) (hy : ev e y = some (.int .i64 1)) (k : QL P N C ops.toArray l ((d, .int .i64 (a % 2)) :: e) Q) : QL P N C ops.toArray (⟨some d, .binOp .and t x y ty, tt, ps, af, g⟩ :: l) e Q := QL.step hg hd (yandA hx hy).in k
theorem FL.andA (hg : gate ops e g = some true) (hd : Nat.blt d N = true) (hx : ev e x = some (.int .i64 a)) (hy : ev e y = some (.int .i64 1)) (k : FL P N ops.toArray C l ((d, .int .i64 (a % 2)) :: e) w Kf) : FL P N ops.toArray C (⟨some d, .binOp .and t x y ty, tt, ps, af, g⟩ :: l) e w Kf := FL.step hg hd (yandA hx hy).in k
end rules
end Go.Lt
