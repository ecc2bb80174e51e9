/- The reference's store: what is put to it. No conditions. -/
import Derived.Test.YtfkdlepemiepdaaAigQ
namespace Go.Proofs.Ytfkdlepemiepdaa
open Go Go.Lt Go.RowKit
set_option linter.unusedVariables false
set_option linter.unusedSimpArgs false

/-- The reference's store that lies at gs. -/
abbrev rsN (B gs : Nat) (a : Option Addr) (cap : Nat) (N : List (Int × Int)) : List Piece := [pcell gs #[.slice a N.length cap] 83, prow 2 encN 35 B a cap N]
abbrev AtRs (w0 : World) (gs : Nat) (rest : List Piece) (q : Int × List (Int × Int)) (v : Value) (w' : World) : Prop :=
  Ext w0 w' ∧ ∃ a' cap', v = .int .i64 q.1 ∧ Sep w0.heap.size w' (rsN w0.heap.size gs a' cap' q.2 ++ rest)
abbrev KeepsR (w0 : World) (gs : Nat) (rest : List Piece) (p : World → Prop) : Prop :=
  ∀ w' a' cap' N', Ext w0 w' → Sep w0.heap.size w' (rsN w0.heap.size gs a' cap' N' ++ rest) → p w'

theorem rs_Has (gs cap : Nat) (a : Option Addr) (N : List (Int × Int)) (x : Int) (w : World) (hc : w.heap[gs]? = some (.cells #[.slice a N.length cap] 83 (0, 0))) (hN : N.length ≤ 1048576) :
    Still Try.prog 159 [.pointer (some ⟨gs, 0, none⟩), .int .i64 x] w (.bool (dec (hasL N x))) := by
  obtain ⟨h1, _⟩ := cells_heap hc
  refine Spec.of _ Try.func159 rfl Try.ntmps159 (by kernel_rfl) rfl ?_
  repeat' (first
    | (apply WL.nilc; exact rfl; exact rfl; exact rfl)
    | (apply WL.eqNilS tOk; exact rfl; exact rfl; exact rfl; exact rfl; exact rfl; exact rfl)
    | (apply WL.neNilS tOk; exact rfl; exact rfl; exact rfl; exact rfl; exact rfl; exact rfl)
    | (apply WL.eqNil tOk; exact rfl; exact rfl; exact rfl; exact rfl; exact rfl; exact rfl)
    | (apply WL.neNil tOk; exact rfl; exact rfl; exact rfl; exact rfl; exact rfl; exact rfl)
    | (show WL _ _ _ _ _ _ _; first | apply WL.nil | (apply WL.pev tOk; exact rfl; exact rfl; exact rfl) | (apply WL.load tOk; exact rfl; exact rfl; exact rfl; exact rfl; exact rfl; (first | assumption | (focus (apply Ext.cell; rotate_left; assumption; (exact extA); done)))) | (apply WL.index tOk; exact rfl; exact rfl; exact rfl; exact rfl; exact rfl; exact rfl; exact rfl; exact rfl; assumption; (exact extA); exact rfl; omega; assumption; intro b off h; have hcc := h; first | (obtain ⟨h1, h2, h3, h4, h5, h6, _⟩ := h) | (obtain ⟨h1, h2, h3, _⟩ := h) | (obtain ⟨h1, h2, _⟩ := h) | (obtain ⟨h1, _⟩ := h)) | (apply WL.add; exact rfl; exact rfl; exact rfl; exact rfl; omega) | (apply WL.sub; exact rfl; exact rfl; exact rfl; exact rfl; omega) | (apply WL.mul; exact rfl; exact rfl; exact rfl; exact rfl; omega) | (apply WL.quo; exact rfl; exact rfl; exact rfl; exact rfl; omega) | (apply WL.rem; exact rfl; exact rfl; exact rfl; exact rfl; omega) | (apply WL.loadA tOk; exact rfl; exact rfl; exact rfl; exact rfl; exact rfl; (first | assumption | (focus (apply Cells.ext; rotate_left; assumption; (exact extA); done))); exact rfl) | (apply WL.guardF; exact rfl; exact rfl) | (apply WL.gD; exact rfl; exact rfl; all_goals intro _) | (apply WL.gN; exact rfl; exact rfl; all_goals intro _) | (apply WL.gB; exact rfl; exact rfl; all_goals intro _))
    | (show Z _ _ _ _ _; first | apply Z.tail | apply Z.then_normal | apply Z.block_normal | apply Z.then_exit | apply Z.block_exit | apply Z.then_ret | apply Z.block_ret | (apply Z.block_other; exact rfl))
    | (show W _ _ _ _ _ _; first | apply W.seq | apply W.region | apply W.block | apply W.skip | apply W.ret | apply W.exit | (apply W.condT; exact rfl) | (apply W.condF; exact rfl) | (apply W.condD; exact rfl; all_goals intro _) | (apply W.condN; exact rfl; all_goals intro _) | (apply W.condB; exact rfl; all_goals intro _)))
  all_goals (refine Z.body1 Try.results159 rfl fun m => ⟨?_, m, rfl⟩; unfold hasL; (first | exact congrArg Value.bool (dec_true (by omega)).symm | exact congrArg Value.bool (dec_false (by omega)).symm | exact congrArg Value.bool (dec_true (by omega)) | exact congrArg Value.bool (dec_false (by omega)) | exact congrArg Value.bool (dec_congr (by omega))))
theorem rs_Not (l : Int) (w : World) (h : l ≤ 9223372036854775807) : Still Try.prog 160 [.int .i64 l] w (.int .i64 (notL l)) := by
  refine Spec.of _ Try.func160 rfl Try.ntmps160 (by kernel_rfl) rfl ?_
  repeat' (first
    | (show WL _ _ _ _ _ _ _; first | apply WL.nil | (apply WL.pev tOk; exact rfl; exact rfl; exact rfl) | (apply WL.load tOk; exact rfl; exact rfl; exact rfl; exact rfl; exact rfl; (first | assumption | (focus (apply Ext.cell; rotate_left; assumption; (exact extA); done)))) | (apply WL.index tOk; exact rfl; exact rfl; exact rfl; exact rfl; exact rfl; exact rfl; exact rfl; exact rfl; assumption; (exact extA); exact rfl; omega; assumption; intro b off h; have hcc := h; first | (obtain ⟨h1, h2, h3, h4, h5, h6, _⟩ := h) | (obtain ⟨h1, h2, h3, _⟩ := h) | (obtain ⟨h1, h2, _⟩ := h) | (obtain ⟨h1, _⟩ := h)) | (apply WL.add; exact rfl; exact rfl; exact rfl; exact rfl; omega) | (apply WL.sub; exact rfl; exact rfl; exact rfl; exact rfl; omega) | (apply WL.mul; exact rfl; exact rfl; exact rfl; exact rfl; omega) | (apply WL.quo; exact rfl; exact rfl; exact rfl; exact rfl; omega) | (apply WL.rem; exact rfl; exact rfl; exact rfl; exact rfl; omega) | (apply WL.loadA tOk; exact rfl; exact rfl; exact rfl; exact rfl; exact rfl; (first | assumption | (focus (apply Cells.ext; rotate_left; assumption; (exact extA); done))); exact rfl) | (apply WL.guardF; exact rfl; exact rfl) | (apply WL.gD; exact rfl; exact rfl; all_goals intro _) | (apply WL.gN; exact rfl; exact rfl; all_goals intro _) | (apply WL.gB; exact rfl; exact rfl; all_goals intro _))
    | (show Z _ _ _ _ _; first | apply Z.tail | apply Z.then_normal | apply Z.block_normal | apply Z.then_exit | apply Z.block_exit | apply Z.then_ret | apply Z.block_ret | (apply Z.block_other; exact rfl))
    | (show W _ _ _ _ _ _; first | apply W.seq | apply W.region | apply W.block | apply W.skip | apply W.ret | apply W.exit | (apply W.condT; exact rfl) | (apply W.condF; exact rfl) | (apply W.condD; exact rfl; all_goals intro _) | (apply W.condN; exact rfl; all_goals intro _) | (apply W.condB; exact rfl; all_goals intro _)))
  all_goals (refine Z.body1 Try.results160 rfl fun m => ⟨?_, m, rfl⟩; congr 1; unfold notL Lt.xor1; first | (rw [if_pos (by assumption)]; done) | (rw [if_neg (by assumption), if_pos (by omega)]; done) | (rw [if_neg (by assumption), if_neg (by omega)]; done))
set_option maxHeartbeats 4000000 in
theorem rs_put (gs cap : Nat) (a : Option Addr) (N : List (Int × Int)) (x : Int × Int) (rest : List Piece) (w w0 : World) (hX : Ext w0 w) (hS : Sep w0.heap.size w (rsN w0.heap.size gs a cap N ++ rest)) (hN : N.length < 1048576) :
    Lt.Spec Try.prog 158 [.pointer (some ⟨gs, 0, none⟩), .agg (encN x).toArray] w (AtRs w0 gs rest (2 * ((N.length : Int) + 1), N ++ [x])) := by
  have hR1 := hS.row (i := 1) rfl
  have hC0 := hS.cell (i := 0) rfl
  have hgs := (hS.lt (i := 0) rfl rfl)
  obtain ⟨hD0, _⟩ := cells_heap hC0
  have hBC : ∀ k, blk a = some k → w0.heap.size ≤ k := fun k hk => (hR1.blk_lt k hk).1
  have hne : blk a ≠ some gs := fun h => by
    rcases hS.apart 1 0 _ _ rfl rfl (by decide) with h1 | h1
    · rw [show (prow 2 encN 35 w0.heap.size a cap N).b = blk a from rfl] at h1; rw [h1] at h; cases h
    · exact h1 h
  refine Spec.of _ Try.func158 rfl Try.ntmps158 (by kernel_rfl) rfl ?_
  repeat' (first
    | (apply WL.box; exact rfl; exact rfl; exact rfl; intro gb w' hb hge hc hx; have hcc := hc; first | (obtain ⟨h1, h2, h3, _⟩ := hc) | (obtain ⟨h1, h2, _⟩ := hc))
    | (show WL _ _ _ _ _ _ _; first | apply WL.nil | (apply WL.pev tOk; exact rfl; exact rfl; exact rfl) | (apply WL.load tOk; exact rfl; exact rfl; exact rfl; exact rfl; exact rfl; (first | assumption | (focus (apply Ext.cell; rotate_left; assumption; (exact extA); done)))) | (apply WL.index tOk; exact rfl; exact rfl; exact rfl; exact rfl; exact rfl; exact rfl; exact rfl; exact rfl; assumption; (exact extA); exact rfl; omega; assumption; intro b off h; have hcc := h; first | (obtain ⟨h1, h2, h3, h4, h5, h6, _⟩ := h) | (obtain ⟨h1, h2, h3, _⟩ := h) | (obtain ⟨h1, h2, _⟩ := h) | (obtain ⟨h1, _⟩ := h)) | (apply WL.add; exact rfl; exact rfl; exact rfl; exact rfl; omega) | (apply WL.sub; exact rfl; exact rfl; exact rfl; exact rfl; omega) | (apply WL.mul; exact rfl; exact rfl; exact rfl; exact rfl; omega) | (apply WL.quo; exact rfl; exact rfl; exact rfl; exact rfl; omega) | (apply WL.rem; exact rfl; exact rfl; exact rfl; exact rfl; omega) | (apply WL.loadA tOk; exact rfl; exact rfl; exact rfl; exact rfl; exact rfl; (first | assumption | (focus (apply Cells.ext; rotate_left; assumption; (exact extA); done))); exact rfl) | (apply WL.guardF; exact rfl; exact rfl) | (apply WL.gD; exact rfl; exact rfl; all_goals intro _) | (apply WL.gN; exact rfl; exact rfl; all_goals intro _) | (apply WL.gB; exact rfl; exact rfl; all_goals intro _))
    | (show Z _ _ _ _ _; first | apply Z.tail | apply Z.then_normal | apply Z.block_normal | apply Z.then_exit | apply Z.block_exit | apply Z.then_ret | apply Z.block_ret | (apply Z.block_other; exact rfl))
    | (show W _ _ _ _ _ _; first | apply W.seq | apply W.region | apply W.block | apply W.skip | apply W.ret | apply W.exit | (apply W.condT; exact rfl) | (apply W.condF; exact rfl) | (apply W.condD; exact rfl; all_goals intro _) | (apply W.condN; exact rfl; all_goals intro _) | (apply W.condB; exact rfl; all_goals intro _)))
  have hx1 := hx
  obtain ⟨g3, rfl⟩ : ∃ x, x = gb := ⟨_, rfl⟩
  have hnx : blk a ≠ some g3 := fun h => by have := (hR1.blk_lt g3 h).2; omega
  have hD0' := hx1.cell hD0
  have hNl : (N ++ [x]).length = N.length + 1 := by simp
  repeat' (first
    | (apply WL.nilc; exact rfl; exact rfl; exact rfl)
    | (apply FL.nilc; exact rfl; exact rfl; exact rfl)
    | (apply WL.eqNilS tOk; exact rfl; exact rfl; exact rfl; exact rfl; exact rfl; exact rfl)
    | (apply WL.neNilS tOk; exact rfl; exact rfl; exact rfl; exact rfl; exact rfl; exact rfl)
    | (apply WL.eqNil tOk; exact rfl; exact rfl; exact rfl; exact rfl; exact rfl; exact rfl)
    | (apply WL.neNil tOk; exact rfl; exact rfl; exact rfl; exact rfl; exact rfl; exact rfl)
    | (apply W.regionGB (.fl true 0 (.fl true 1 (.fl true 2 (.fl true 3 (.fl false 4 (.fl false 5 (.br 6 (.br 7 (.fl true 8 (.fl true 9 (.br 10 .done .stop))) .stop) .stop))))))) [5, 6, 7] (blk a) tMix; kernel_rfl)
    | (apply WL.lit tOk; exact rfl; exact rfl; exact rfl; exact rfl; exact rfl; exact rfl; (first | exact rfl | kernel_rfl | (simp [Instr.fill, catCells]; done)); exact rfl; intro gb w' hb hge hc hx)
    | (apply WL.append1 (z := (x)) tOk encN_ok; exact rfl; exact rfl; exact rfl; exact rfl; exact rfl; exact rfl; exact rfl; exact rfl; exact rfl; exact rfl; assumption; (exact extA); (first | exact rfl | (simp; done) | (simp [*]; done) | omega | (simp only [List.length_set]; omega)); assumption; exact rfl; exact rfl; (exact extA); (first | omega | (simp; omega) | (simp at *; omega)); intro a' cap' w' hO hX' hU hF; (first | replace hS := Sep.updRow (i := 0) rfl hU hO hF hS (by (exact extA)) (by (first | exact Nat.le_refl _ | exact Below.size (by (exact extA)))) | replace hS := Sep.updRow (i := 1) rfl hU hO hF hS (by (exact extA)) (by (first | exact Nat.le_refl _ | exact Below.size (by (exact extA)))) | replace hS := Sep.updRow (i := 2) rfl hU hO hF hS (by (exact extA)) (by (first | exact Nat.le_refl _ | exact Below.size (by (exact extA)))) | replace hS := Sep.updRow (i := 3) rfl hU hO hF hS (by (exact extA)) (by (first | exact Nat.le_refl _ | exact Below.size (by (exact extA)))) | replace hS := Sep.updRow (i := 4) rfl hU hO hF hS (by (exact extA)) (by (first | exact Nat.le_refl _ | exact Below.size (by (exact extA)))) | replace hS := Sep.updRow (i := 5) rfl hU hO hF hS (by (exact extA)) (by (first | exact Nat.le_refl _ | exact Below.size (by (exact extA))))); (try simp only [List.set_cons_zero, List.set_cons_succ] at hS); (try have hR0 := hS.row (i := 0) rfl); (try have hR1 := hS.row (i := 1) rfl); (try have hR2 := hS.row (i := 2) rfl); (try have hR3 := hS.row (i := 3) rfl); (try have hR4 := hS.row (i := 4) rfl); (try have hC0 := hS.cell (i := 0) rfl); (try have hD0 := (cells_heap hC0).1); (try have hE0 := (cells_heap hC0).2.1); (try have hF0 := (cells_heap hC0).2.2.1); (try have hG0 := (cells_heap hC0).2.2.2.1); (try have hC1 := hS.cell (i := 1) rfl); (try have hD1 := (cells_heap hC1).1); (try have hE1 := (cells_heap hC1).2.1); (try have hF1 := (cells_heap hC1).2.2.1); (try have hG1 := (cells_heap hC1).2.2.2.1); (try have hC2 := hS.cell (i := 2) rfl); (try have hD2 := (cells_heap hC2).1); (try have hE2 := (cells_heap hC2).2.1); (try have hF2 := (cells_heap hC2).2.2.1); (try have hG2 := (cells_heap hC2).2.2.2.1); (try have hC3 := hS.cell (i := 3) rfl); (try have hD3 := (cells_heap hC3).1); (try have hE3 := (cells_heap hC3).2.1); (try have hF3 := (cells_heap hC3).2.2.1); (try have hG3 := (cells_heap hC3).2.2.2.1); (try have hC4 := hS.cell (i := 4) rfl); (try have hD4 := (cells_heap hC4).1); (try have hE4 := (cells_heap hC4).2.1); (try have hF4 := (cells_heap hC4).2.2.1); (try have hG4 := (cells_heap hC4).2.2.2.1); (try have hM0 := hS.map (i := 0) rfl); (try have hM1 := hS.map (i := 1) rfl); (try have hM2 := hS.map (i := 2) rfl); (try have hM3 := hS.map (i := 3) rfl); (try have hM4 := hS.map (i := 4) rfl))
    | (apply WL.storeF (w0 := w0) tOk; exact rfl; exact rfl; exact rfl; exact rfl; assumption; (exact extA); exact rfl; exact rfl; exact rfl; exact rfl; (exact extA); (first | assumption | omega); intro w' hb hX' hU; replace hS := Sep.updCell (i := 0) rfl hU hb hS (by (exact extA)) (by (first | exact Nat.le_refl _ | exact Below.size (by (exact extA)))); (try simp only [List.set_cons_zero, List.set_cons_succ] at hS); (try have hR0 := hS.row (i := 0) rfl); (try have hR1 := hS.row (i := 1) rfl); (try have hR2 := hS.row (i := 2) rfl); (try have hR3 := hS.row (i := 3) rfl); (try have hR4 := hS.row (i := 4) rfl); (try have hC0 := hS.cell (i := 0) rfl); (try have hD0 := (cells_heap hC0).1); (try have hE0 := (cells_heap hC0).2.1); (try have hF0 := (cells_heap hC0).2.2.1); (try have hG0 := (cells_heap hC0).2.2.2.1); (try have hC1 := hS.cell (i := 1) rfl); (try have hD1 := (cells_heap hC1).1); (try have hE1 := (cells_heap hC1).2.1); (try have hF1 := (cells_heap hC1).2.2.1); (try have hG1 := (cells_heap hC1).2.2.2.1); (try have hC2 := hS.cell (i := 2) rfl); (try have hD2 := (cells_heap hC2).1); (try have hE2 := (cells_heap hC2).2.1); (try have hF2 := (cells_heap hC2).2.2.1); (try have hG2 := (cells_heap hC2).2.2.2.1); (try have hC3 := hS.cell (i := 3) rfl); (try have hD3 := (cells_heap hC3).1); (try have hE3 := (cells_heap hC3).2.1); (try have hF3 := (cells_heap hC3).2.2.1); (try have hG3 := (cells_heap hC3).2.2.2.1); (try have hC4 := hS.cell (i := 4) rfl); (try have hD4 := (cells_heap hC4).1); (try have hE4 := (cells_heap hC4).2.1); (try have hF4 := (cells_heap hC4).2.2.1); (try have hG4 := (cells_heap hC4).2.2.2.1); (try have hM0 := hS.map (i := 0) rfl); (try have hM1 := hS.map (i := 1) rfl); (try have hM2 := hS.map (i := 2) rfl); (try have hM3 := hS.map (i := 3) rfl); (try have hM4 := hS.map (i := 4) rfl))
    | (show WL _ _ _ _ _ _ _; first | apply WL.nil | (apply WL.pev tOk; exact rfl; exact rfl; exact rfl) | (apply WL.load tOk; exact rfl; exact rfl; exact rfl; exact rfl; exact rfl; (first | assumption | (focus (apply Ext.cell; rotate_left; assumption; (exact extA); done)))) | (apply WL.index tOk; exact rfl; exact rfl; exact rfl; exact rfl; exact rfl; exact rfl; exact rfl; exact rfl; assumption; (exact extA); exact rfl; omega; assumption; intro b off h; have hcc := h; first | (obtain ⟨h1, h2, h3, h4, h5, h6, _⟩ := h) | (obtain ⟨h1, h2, h3, _⟩ := h) | (obtain ⟨h1, h2, _⟩ := h) | (obtain ⟨h1, _⟩ := h)) | (apply WL.add; exact rfl; exact rfl; exact rfl; exact rfl; omega) | (apply WL.sub; exact rfl; exact rfl; exact rfl; exact rfl; omega) | (apply WL.mul; exact rfl; exact rfl; exact rfl; exact rfl; omega) | (apply WL.quo; exact rfl; exact rfl; exact rfl; exact rfl; omega) | (apply WL.rem; exact rfl; exact rfl; exact rfl; exact rfl; omega) | (apply WL.loadA tOk; exact rfl; exact rfl; exact rfl; exact rfl; exact rfl; (first | assumption | (focus (apply Cells.ext; rotate_left; assumption; (exact extA); done))); exact rfl) | (apply WL.guardF; exact rfl; exact rfl) | (apply WL.gD; exact rfl; exact rfl; all_goals intro _) | (apply WL.gN; exact rfl; exact rfl; all_goals intro _) | (apply WL.gB; exact rfl; exact rfl; all_goals intro _))
    | (show SG _ _ _ _ _ _ _ _ _; first | apply SG.done | apply SG.stop | (apply SG.fl0; exact rfl) | (apply SG.fl1; exact rfl; (focus ((intro m; first | assumption | (apply Ext.at; (exact extA)) | apply But.of_at; first | exact But.upd (by assumption) | exact But.ext (by (exact extA)) | (refine But.trans ?_ (But.upd (by assumption)); exact But.ext (by (exact extA))) | exact But.at _ _ _); done))) | (apply SG.br1; exact rfl) | (apply SG.br; exact rfl))
    | (show FL _ _ _ _ _ _ _ _; first | apply FL.nilS | (apply FL.pev tOk; exact rfl; exact rfl; exact rfl) | (apply FL.loadG tOk; exact rfl; exact rfl; exact rfl; exact rfl; exact rfl; (first | assumption | (focus (apply Ext.cell; rotate_left; assumption; (exact extA); done))); (first | (focus (intro h; cases h; done)) | (focus (intro h; have h9 := hBC _ h; (try simp only at h9); omega)) | assumption | (focus (intro h; simp only [blk, Option.map_some, Option.some.injEq] at h; omega)))) | (apply FL.index tOk; exact rfl; exact rfl; exact rfl; exact rfl; exact rfl; exact rfl; exact rfl; exact rfl; assumption; (exact extA); exact rfl; omega; assumption; exact List.cons_ne_nil _ _; intro b off h hbl; have hcc := h; first | (obtain ⟨h1, h2, h3, h4, h5, h6, _⟩ := h) | (obtain ⟨h1, h2, h3, _⟩ := h) | (obtain ⟨h1, h2, _⟩ := h) | (obtain ⟨h1, _⟩ := h)) | (apply FL.add; exact rfl; exact rfl; exact rfl; exact rfl; omega) | (apply FL.sub; exact rfl; exact rfl; exact rfl; exact rfl; omega) | (apply FL.mul; exact rfl; exact rfl; exact rfl; exact rfl; omega) | (apply FL.quo; exact rfl; exact rfl; exact rfl; exact rfl; omega) | (apply FL.rem; exact rfl; exact rfl; exact rfl; exact rfl; omega) | (apply FL.loadAG tOk; exact rfl; exact rfl; exact rfl; exact rfl; exact rfl; (first | assumption | (focus (apply Cells.ext; rotate_left; assumption; (exact extA); done))); exact rfl; (first | (focus (intro h; cases h; done)) | (focus (intro h; have h9 := hBC _ h; (try simp only at h9); omega)) | assumption | (focus (intro h; simp only [blk, Option.map_some, Option.some.injEq] at h; omega)))) | (apply FL.guardF; exact rfl; exact rfl) | (apply FL.gD; exact rfl; exact rfl; all_goals intro _) | (apply FL.gN; exact rfl; exact rfl; all_goals intro _) | (apply FL.gB; exact rfl; exact rfl; all_goals intro _))
    | (show Z _ _ _ _ _; first | (apply Z.sgL; exact rfl) | (apply Z.sgE; (focus ((intro m; first | assumption | (apply Ext.at; (exact extA)) | apply But.of_at; first | exact But.upd (by assumption) | exact But.ext (by (exact extA)) | (refine But.trans ?_ (But.upd (by assumption)); exact But.ext (by (exact extA))) | exact But.at _ _ _); done))))
    | (show Z _ _ _ _ _; first | apply Z.tail | apply Z.then_normal | apply Z.block_normal | apply Z.then_exit | apply Z.block_exit | apply Z.then_ret | apply Z.block_ret | (apply Z.block_other; exact rfl))
    | (show W _ _ _ _ _ _; first | apply W.seq | apply W.region | apply W.block | apply W.skip | apply W.ret | apply W.exit | (apply W.condT; exact rfl) | (apply W.condF; exact rfl) | (apply W.condD; exact rfl; all_goals intro _) | (apply W.condN; exact rfl; all_goals intro _) | (apply W.condB; exact rfl; all_goals intro _)))
  all_goals (
    refine Z.body1 Try.results158 rfl fun m => ⟨Ext.at (by assumption) m, a', cap', ?_, hS.ext ((Ext.refl _).at m)⟩
    rw [hNl]; rfl)
theorem rs_Input (gs cap : Nat) (a : Option Addr) (N : List (Int × Int)) (rest : List Piece) (w w0 : World) (hX : Ext w0 w) (hS : Sep w0.heap.size w (rsN w0.heap.size gs a cap N ++ rest)) (hN : N.length < 1048576) :
    Lt.Spec Try.prog 120 [.pointer (some ⟨gs, 0, none⟩)] w (AtRs w0 gs rest (2 * ((N.length : Int) + 1), N ++ [(-1, 0)])) := by
  refine Spec.of _ Try.func120 rfl Try.ntmps120 (by kernel_rfl) rfl ?_
  repeat' (first
    | (apply WL.nilc; exact rfl; exact rfl; exact rfl)
    | (apply WL.eqNilS tOk; exact rfl; exact rfl; exact rfl; exact rfl; exact rfl; exact rfl)
    | (apply WL.neNilS tOk; exact rfl; exact rfl; exact rfl; exact rfl; exact rfl; exact rfl)
    | (apply WL.eqNil tOk; exact rfl; exact rfl; exact rfl; exact rfl; exact rfl; exact rfl)
    | (apply WL.neNil tOk; exact rfl; exact rfl; exact rfl; exact rfl; exact rfl; exact rfl)
    | (apply WL.build tOk; exact rfl; exact rfl; exact rfl; exact rfl; exact rfl; exact rfl; exact rfl; kernel_rfl)
    | (((show WL _ _ _ (⟨_, .call ⟨.value (.func 158), _, _⟩, _, _, _, _⟩ :: _) _ _ _); apply WL.call; exact rfl; exact rfl; exact rfl; exact rfl; exact rs_put gs cap a N (-1, 0) rest _ w0 hX hS hN; rintro v' w' ⟨hX2, a', cap', rfl, hS2⟩))
    | (show WL _ _ _ _ _ _ _; first | apply WL.nil | (apply WL.pev tOk; exact rfl; exact rfl; exact rfl) | (apply WL.load tOk; exact rfl; exact rfl; exact rfl; exact rfl; exact rfl; (first | assumption | (focus (apply Ext.cell; rotate_left; assumption; (exact extA); done)))) | (apply WL.index tOk; exact rfl; exact rfl; exact rfl; exact rfl; exact rfl; exact rfl; exact rfl; exact rfl; assumption; (exact extA); exact rfl; omega; assumption; intro b off h; have hcc := h; first | (obtain ⟨h1, h2, h3, h4, h5, h6, _⟩ := h) | (obtain ⟨h1, h2, h3, _⟩ := h) | (obtain ⟨h1, h2, _⟩ := h) | (obtain ⟨h1, _⟩ := h)) | (apply WL.add; exact rfl; exact rfl; exact rfl; exact rfl; omega) | (apply WL.sub; exact rfl; exact rfl; exact rfl; exact rfl; omega) | (apply WL.mul; exact rfl; exact rfl; exact rfl; exact rfl; omega) | (apply WL.quo; exact rfl; exact rfl; exact rfl; exact rfl; omega) | (apply WL.rem; exact rfl; exact rfl; exact rfl; exact rfl; omega) | (apply WL.loadA tOk; exact rfl; exact rfl; exact rfl; exact rfl; exact rfl; (first | assumption | (focus (apply Cells.ext; rotate_left; assumption; (exact extA); done))); exact rfl) | (apply WL.guardF; exact rfl; exact rfl) | (apply WL.gD; exact rfl; exact rfl; all_goals intro _) | (apply WL.gN; exact rfl; exact rfl; all_goals intro _) | (apply WL.gB; exact rfl; exact rfl; all_goals intro _))
    | (show Z _ _ _ _ _; first | apply Z.tail | apply Z.then_normal | apply Z.block_normal | apply Z.then_exit | apply Z.block_exit | apply Z.then_ret | apply Z.block_ret | (apply Z.block_other; exact rfl))
    | (show W _ _ _ _ _ _; first | apply W.seq | apply W.region | apply W.block | apply W.skip | apply W.ret | apply W.exit | (apply W.condT; exact rfl) | (apply W.condF; exact rfl) | (apply W.condD; exact rfl; all_goals intro _) | (apply W.condN; exact rfl; all_goals intro _) | (apply W.condB; exact rfl; all_goals intro _)))
  exact Z.body1 Try.results120 rfl fun m => ⟨hX2.at m, a', cap', rfl, hS2.ext ((Ext.refl _).at m)⟩

/-- And, by the reference's way. -/
theorem andV_comm_ways {N : List (Int × Int)} {x y : Int} (hx : hasL N x) (hy : hasL N y) :
    ((x = 0 ∨ y = 0 ∨ x = notL y) → andV N x y = (0, N)) ∧
    (¬ (x = 0 ∨ y = 0 ∨ x = notL y) → (x = 1 ∨ x = y) → andV N x y = (y, N)) ∧
    (¬ (x = 0 ∨ y = 0 ∨ x = notL y) → ¬ (x = 1 ∨ x = y) → y = 1 → andV N x y = (x, N)) ∧
    (¬ (x = 0 ∨ y = 0 ∨ x = notL y) → ¬ (x = 1 ∨ x = y) → ¬ y = 1 → ∀ a b : Int, a ≤ b → ((a = x ∧ b = y) ∨ (a = y ∧ b = x)) →
      (∀ i : Nat, N[i]? = some (a, b) → (∀ j : Nat, j < i → N[j]? ≠ some (a, b)) → andV N x y = (2 * ((i : Int) + 1), N)) ∧
      ((∀ j : Nat, N[j]? ≠ some (a, b)) → andV N x y = (2 * ((N.length : Int) + 1), N ++ [(a, b)]))) := by
  obtain ⟨p, q, hpq, hle, hw⟩ := andV_ways N x y
  have hh : hasL N p ∧ hasL N q := by rcases hpq with ⟨rfl, rfl⟩ | ⟨rfl, rfl⟩; exact ⟨hx, hy⟩; exact ⟨hy, hx⟩
  have hx0 := hx.1
  have hy0 := hy.1
  have hn : notL y = if y % 2 = 0 then y + 1 else y - 1 := by rw [notL_xor1 hy0]; rfl
  have hpx : Lt.xor1 q = if q % 2 = 0 then q + 1 else q - 1 := rfl
  rw [hpx] at hw
  rw [hn]
  refine ⟨fun h => ?_, fun h h1 => ?_, fun h h1 h2 => ?_, fun h h1 h2 a b hab hc => ?_⟩
  · rcases hw with ⟨h1, _⟩ | ⟨_, _, hw⟩ | ⟨_, h1, _, _⟩ | ⟨_, h1, _⟩ | ⟨_, h1, _⟩
    · exact absurd hh h1
    · exact hw
    all_goals (exfalso; rcases hpq with ⟨rfl, rfl⟩ | ⟨rfl, rfl⟩ <;> split at h <;> (try split at h1) <;> omega)
  · rcases hw with ⟨h3, _⟩ | ⟨_, h3, hw⟩ | ⟨_, h3, h4, hw⟩ | ⟨_, h3, _⟩ | ⟨_, h3, _⟩
    · exact absurd hh h3
    · exfalso; rcases hpq with ⟨rfl, rfl⟩ | ⟨rfl, rfl⟩ <;> split at h <;> split at h3 <;> omega
    · rw [hw]; congr 1; rcases hpq with ⟨rfl, rfl⟩ | ⟨rfl, rfl⟩ <;> split at h <;> split at h3 <;> omega
    all_goals (exfalso; rcases hpq with ⟨rfl, rfl⟩ | ⟨rfl, rfl⟩ <;> omega)
  · rcases hw with ⟨h3, _⟩ | ⟨_, h3, hw⟩ | ⟨_, h3, h4, hw⟩ | ⟨_, h3, _⟩ | ⟨_, h3, _⟩
    · exact absurd hh h3
    · exfalso; rcases hpq with ⟨rfl, rfl⟩ | ⟨rfl, rfl⟩ <;> split at h <;> split at h3 <;> omega
    · rw [hw]; congr 1; rcases hpq with ⟨rfl, rfl⟩ | ⟨rfl, rfl⟩ <;> split at h <;> split at h3 <;> omega
    all_goals (exfalso; rcases hpq with ⟨rfl, rfl⟩ | ⟨rfl, rfl⟩ <;> omega)
  · have e : p = a ∧ q = b := by
      rcases hpq with ⟨rfl, rfl⟩ | ⟨rfl, rfl⟩ <;> rcases hc with ⟨rfl, rfl⟩ | ⟨rfl, rfl⟩ <;> omega
    obtain ⟨rfl, rfl⟩ := e
    rcases hw with ⟨h3, _⟩ | ⟨_, h3, hw⟩ | ⟨_, h3, h4, hw⟩ | ⟨_, h3, i, i1, i2, i3, hw⟩ | ⟨_, h3, h4, hw⟩
    · exact absurd hh h3
    · exfalso; rcases hpq with ⟨rfl, rfl⟩ | ⟨rfl, rfl⟩ <;> split at h <;> split at h3 <;> omega
    · exfalso; rcases hpq with ⟨rfl, rfl⟩ | ⟨rfl, rfl⟩ <;> split at h <;> split at h3 <;> omega
    · refine ⟨fun j hj hj2 => ?_, fun hj => absurd i2 (hj i)⟩
      have : i = j := by
        rcases Nat.lt_trichotomy i j with hl | hl | hl
        · exact absurd i2 (hj2 i hl)
        · exact hl
        · exact absurd hj (i3 j hl)
      rw [hw, this]
    · exact ⟨fun j hj _ => absurd hj (h4 j), fun _ => hw⟩
end Go.Proofs.Ytfkdlepemiepdaa
