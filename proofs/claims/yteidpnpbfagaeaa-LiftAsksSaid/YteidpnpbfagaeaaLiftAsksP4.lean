/- Part 4 of what the claim LiftAsks needs: lemmas and contracts, printed from longer texts. No conditions. -/
import Derived.Test.YteidpnpbfagaeaaRows
import Derived.Lib.SmallJoins
import Derived.KernelRfl
import Derived.WalkKit
import Derived.ProofKit
import Derived.Deep.Quiet
import Derived.Deep.LoopGhost
import Derived.StillTail
import Derived.Test.YteidpnpbfagaeaaProg
import Derived.OpenShut
import Derived.ShutString
import Derived.ChangeOld
import Derived.Deep.Slices
import Derived.SizedLaws
import Derived.Laws.StructEq
import Derived.Laws.Externs
import Derived.MapKept
import Derived.Test.YteidpnpbfagaeaaLiftAsksP3
namespace Go.Proofs.Yteidpnpbfagaeaa
open Go Go.Lt Go.RowKit
set_option linter.unusedVariables false
set_option linter.unusedSimpArgs false
set_option maxRecDepth 20000

/-- The reference's store that lies at gs. -/
abbrev rsN (B gs : Nat) (a : Option Addr) (cap : Nat) (N : List (Int × Int)) : List Piece := [pcell gs #[.slice a N.length cap] 102, prow 2 encN 105 B a cap N]
abbrev AtRs (w0 : World) (gs : Nat) (rest : List Piece) (q : Int × List (Int × Int)) (v : Value) (w' : World) : Prop :=
  Ext w0 w' ∧ ∃ a' cap', v = .int .i64 q.1 ∧ Sep w0.heap.size w' (rsN w0.heap.size gs a' cap' q.2 ++ rest)
abbrev KeepsR (w0 : World) (gs : Nat) (rest : List Piece) (p : World → Prop) : Prop :=
  ∀ w' a' cap' N', Ext w0 w' → Sep w0.heap.size w' (rsN w0.heap.size gs a' cap' N' ++ rest) → p w'

theorem rs_Has (gs cap : Nat) (a : Option Addr) (N : List (Int × Int)) (x : Int) (w : World) (hc : w.heap[gs]? = some (.cells #[.slice a N.length cap] 102 (0, 0))) (hN : N.length ≤ 1048576) :
    Still Try.prog 118 [.pointer (some ⟨gs, 0, none⟩), .int .i64 x] w (.bool (dec (hasL N x))) := by
  obtain ⟨h1, _⟩ := cells_heap hc
  refine Spec.of _ Try.func118 rfl Try.ntmps118 (by kernel_rfl) rfl ?_
  repeat' (first
    | (apply WL.nilc; (iterate 3 exact rfl))
    | (show WL _ _ _ _ _ _ _; first | apply WL.nil | (refine WL.au (k := ?_)) | (apply WL.guardF; exact rfl; exact rfl) | (apply WL.gD; exact rfl; exact rfl; all_goals intro _))
    | (show Z _ _ _ _ _; apply Z.then_normal)
    | (show W _ _ _ _ _ _; first | apply W.seq | apply W.region | apply W.ret)
    | fail)
  all_goals (refine Z.body1 Try.results118 rfl fun m => ⟨?_, m, rfl⟩; unfold hasL; (first | exact congrArg Value.bool (dec_true (by omega)).symm | exact congrArg Value.bool (dec_false (by omega)).symm | exact congrArg Value.bool (dec_true (by omega)) | exact congrArg Value.bool (dec_false (by omega)) | exact congrArg Value.bool (dec_congr (by omega))))
theorem rs_Not (l : Int) (w : World) (h : l ≤ 9223372036854775807) : Still Try.prog 69 [.int .i64 l] w (.int .i64 (notL l)) := by
  refine Spec.of _ Try.func69 rfl Try.ntmps69 (by kernel_rfl) rfl ?_
  repeat' (first
    | (show WL _ _ _ _ _ _ _; first | apply WL.nil | (refine WL.au (k := ?_)))
    | (show Z _ _ _ _ _; first | apply Z.then_normal | apply Z.then_ret)
    | (show W _ _ _ _ _ _; first | apply W.seq | apply W.region | apply W.skip | apply W.ret | (apply W.condD; exact rfl; all_goals intro _))
    | fail)
  all_goals (refine Z.body1 Try.results69 rfl fun m => ⟨?_, m, rfl⟩; congr 1; unfold notL Lt.xor1; first | (rw [if_pos (by assumption)]; done) | (rw [if_neg (by assumption), if_pos (by omega)]; done) | (rw [if_neg (by assumption), if_neg (by omega)]; done))
set_option maxHeartbeats 4000000 in
theorem rs_put (gs cap : Nat) (a : Option Addr) (N : List (Int × Int)) (x : Int × Int) (rest : List Piece) (w w0 : World) (hX : Ext w0 w) (hS : Sep w0.heap.size w (rsN w0.heap.size gs a cap N ++ rest)) (hN : N.length < 1048576) :
    Lt.Spec Try.prog 158 [.pointer (some ⟨gs, 0, none⟩), .agg (encN x).toArray] w (AtRs w0 gs rest (2 * ((N.length : Int) + 1), N ++ [x])) := by
  have hR1 := hS.row (i := 1) rfl
  have hC0 := hS.cell (i := 0) rfl
  have hgs := (hS.lt (i := 0) rfl rfl)
  obtain ⟨hD0, _⟩ := cells_heap hC0
  have hBC : ∀ k, blk a = some k → w0.heap.size ≤ k := fun k hk => (hR1.blk_lt k hk).1
  have hne : blk a ≠ some gs := fun h => by
    rcases hS.apart 1 0 _ _ rfl rfl (by decide) with h1 | h1
    · rw [show (prow 2 encN 105 w0.heap.size a cap N).b = blk a from rfl] at h1; rw [h1] at h; cases h
    · exact h1 h
  refine Spec.of _ Try.func158 rfl Try.ntmps158 (by kernel_rfl) rfl ?_
  repeat' (first
    | (apply WL.box; (iterate 3 exact rfl); intro gb w' hb hge hc hx; have hcc := hc; (first | (obtain ⟨h1, h2, h3, _⟩ := hc) | (obtain ⟨h1, h2, _⟩ := hc)))
    | (show WL _ _ _ _ _ _ _; first | apply WL.nil | (refine WL.au (k := ?_)))
    | (show Z _ _ _ _ _; apply Z.then_normal)
    | (show W _ _ _ _ _ _; first | apply W.seq | apply W.region)
    | fail)
  have hx1 := hx
  obtain ⟨g3, rfl⟩ : ∃ x, x = gb := ⟨_, rfl⟩
  have hnx : blk a ≠ some g3 := fun h => by have := (hR1.blk_lt g3 h).2; omega
  have hD0' := hx1.cell hD0
  have hNl : (N ++ [x]).length = N.length + 1 := by simp
  repeat' (first
    | (apply WL.nilc; (iterate 3 exact rfl))
    | (apply FL.nilc; (iterate 3 exact rfl))
    | (show W _ _ (.region 1 _ _) _ _ _; apply W.regionGB (.fl true 0 (.fl true 1 (.fl true 2 (.fl true 3 (.fl false 4 (.fl false 5 (.br 6 (.br 7 (.fl true 8 (.fl true 9 (.br 10 .done .stop))) .stop) .stop))))))) [5, 6, 7] (blk a) tMix; kernel_rfl)
    | (apply WL.lit tOk; (iterate 6 exact rfl); (first | exact rfl | kernel_rfl | (simp [Instr.fill, catCells]; done)); exact rfl; intro gb w' hb hge hc hx)
    | (apply WL.append1 (z := (x)) tOk encN_ok; (iterate 10 exact rfl); assumption; (exact extA); (first | exact rfl | (focus (simp only [List.length_set]; done)) | (focus (simp; done)) | (focus (simp [*]; done)) | omega | (focus (simp only [List.length_set]; omega))); (first | assumption | (refine Cells.ext ?_ (by assumption); exact extA)); exact rfl; exact rfl; (exact extA); (first | omega | (simp; omega) | (simp at *; omega)); intro a' cap' w' hO hX' hU hF; (first | replace hS := Sep.updRow (i := 0) rfl hU hO hF hS (by (exact extA)) (by (first | exact Nat.le_refl _ | exact Below.size (by (exact extA)))) | replace hS := Sep.updRow (i := 1) rfl hU hO hF hS (by (exact extA)) (by (first | exact Nat.le_refl _ | exact Below.size (by (exact extA)))) | replace hS := Sep.updRow (i := 2) rfl hU hO hF hS (by (exact extA)) (by (first | exact Nat.le_refl _ | exact Below.size (by (exact extA)))) | replace hS := Sep.updRow (i := 3) rfl hU hO hF hS (by (exact extA)) (by (first | exact Nat.le_refl _ | exact Below.size (by (exact extA)))) | replace hS := Sep.updRow (i := 4) rfl hU hO hF hS (by (exact extA)) (by (first | exact Nat.le_refl _ | exact Below.size (by (exact extA)))) | replace hS := Sep.updRow (i := 5) rfl hU hO hF hS (by (exact extA)) (by (first | exact Nat.le_refl _ | exact Below.size (by (exact extA))))); (try simp only [List.set_cons_zero, List.set_cons_succ] at hS); (try have hR0 := hS.row (i := 0) rfl); (try have hR1 := hS.row (i := 1) rfl); (try have hR2 := hS.row (i := 2) rfl); (try have hR3 := hS.row (i := 3) rfl); (try have hR4 := hS.row (i := 4) rfl); (try have hC0 := hS.cell (i := 0) rfl); (try have hD0 := (cells_heap hC0).1); (try have hE0 := (cells_heap hC0).2.1); (try have hF0 := (cells_heap hC0).2.2.1); (try have hG0 := (cells_heap hC0).2.2.2.1); (try have hC1 := hS.cell (i := 1) rfl); (try have hD1 := (cells_heap hC1).1); (try have hE1 := (cells_heap hC1).2.1); (try have hF1 := (cells_heap hC1).2.2.1); (try have hG1 := (cells_heap hC1).2.2.2.1); (try have hC2 := hS.cell (i := 2) rfl); (try have hD2 := (cells_heap hC2).1); (try have hE2 := (cells_heap hC2).2.1); (try have hF2 := (cells_heap hC2).2.2.1); (try have hG2 := (cells_heap hC2).2.2.2.1); (try have hC3 := hS.cell (i := 3) rfl); (try have hD3 := (cells_heap hC3).1); (try have hE3 := (cells_heap hC3).2.1); (try have hF3 := (cells_heap hC3).2.2.1); (try have hG3 := (cells_heap hC3).2.2.2.1); (try have hC4 := hS.cell (i := 4) rfl); (try have hD4 := (cells_heap hC4).1); (try have hE4 := (cells_heap hC4).2.1); (try have hF4 := (cells_heap hC4).2.2.1); (try have hG4 := (cells_heap hC4).2.2.2.1); (try have hM0 := hS.map (i := 0) rfl); (try have hM1 := hS.map (i := 1) rfl); (try have hM2 := hS.map (i := 2) rfl); (try have hM3 := hS.map (i := 3) rfl); (try have hM4 := hS.map (i := 4) rfl))
    | (apply WL.storeF (w0 := w0) tOk; (iterate 4 exact rfl); assumption; (exact extA); (iterate 4 exact rfl); (exact extA); (first | assumption | omega | (focus (apply Nat.le_trans; rotate_left; assumption; exact Below.size (by (exact extA))))); intro w' hb hX' hU; replace hS := Sep.updCell (i := 0) rfl hU hb hS (by (exact extA)) (by (first | exact Nat.le_refl _ | exact Below.size (by (exact extA)))); (try simp only [List.set_cons_zero, List.set_cons_succ] at hS); (try have hR0 := hS.row (i := 0) rfl); (try have hR1 := hS.row (i := 1) rfl); (try have hR2 := hS.row (i := 2) rfl); (try have hR3 := hS.row (i := 3) rfl); (try have hR4 := hS.row (i := 4) rfl); (try have hC0 := hS.cell (i := 0) rfl); (try have hD0 := (cells_heap hC0).1); (try have hE0 := (cells_heap hC0).2.1); (try have hF0 := (cells_heap hC0).2.2.1); (try have hG0 := (cells_heap hC0).2.2.2.1); (try have hC1 := hS.cell (i := 1) rfl); (try have hD1 := (cells_heap hC1).1); (try have hE1 := (cells_heap hC1).2.1); (try have hF1 := (cells_heap hC1).2.2.1); (try have hG1 := (cells_heap hC1).2.2.2.1); (try have hC2 := hS.cell (i := 2) rfl); (try have hD2 := (cells_heap hC2).1); (try have hE2 := (cells_heap hC2).2.1); (try have hF2 := (cells_heap hC2).2.2.1); (try have hG2 := (cells_heap hC2).2.2.2.1); (try have hC3 := hS.cell (i := 3) rfl); (try have hD3 := (cells_heap hC3).1); (try have hE3 := (cells_heap hC3).2.1); (try have hF3 := (cells_heap hC3).2.2.1); (try have hG3 := (cells_heap hC3).2.2.2.1); (try have hC4 := hS.cell (i := 4) rfl); (try have hD4 := (cells_heap hC4).1); (try have hE4 := (cells_heap hC4).2.1); (try have hF4 := (cells_heap hC4).2.2.1); (try have hG4 := (cells_heap hC4).2.2.2.1); (try have hM0 := hS.map (i := 0) rfl); (try have hM1 := hS.map (i := 1) rfl); (try have hM2 := hS.map (i := 2) rfl); (try have hM3 := hS.map (i := 3) rfl); (try have hM4 := hS.map (i := 4) rfl))
    | (show WL _ _ _ _ _ _ _; first | apply WL.nil | (refine WL.au (k := ?_)))
    | (show SG _ _ _ _ _ _ _ _ _; first | apply SG.done | (apply SG.fl0; exact rfl) | (apply SG.fl1; exact rfl; (focus ((intro m; first | assumption | (apply Ext.at; (exact extA)) | apply But.of_at; first | exact But.upd (by assumption) | exact But.ext (by (exact extA)) | (refine But.trans ?_ (But.upd (by assumption)); exact But.ext (by (exact extA))) | exact But.at _ _ _); done))) | (apply SG.br1; exact rfl))
    | (show FL _ _ _ _ _ _ _ _; first | apply FL.nilS | (refine FL.au (k := ?_)) | (apply FL.loadG tOk; (iterate 5 exact rfl); (first | assumption | (focus (apply Ext.cell; rotate_left; assumption; (exact extA); done))); (first | (focus (intro h; cases h; done)) | (focus (intro h; have h9 := hBC _ h; (try simp only at h9); omega)) | assumption | (focus (intro h; simp only [blk, Option.map_some, Option.some.injEq] at h; omega)))) | (apply FL.loadAG tOk; (iterate 5 exact rfl); (first | assumption | (focus (apply Cells.ext; rotate_left; assumption; (exact extA); done))); exact rfl; (first | (focus (intro h; cases h; done)) | (focus (intro h; have h9 := hBC _ h; (try simp only at h9); omega)) | assumption | (focus (intro h; simp only [blk, Option.map_some, Option.some.injEq] at h; omega)))))
    | (show Z _ _ _ _ _; first | (apply Z.sgL; exact rfl) | (apply Z.sgE; (focus ((intro m; first | assumption | (apply Ext.at; (exact extA)) | apply But.of_at; first | exact But.upd (by assumption) | exact But.ext (by (exact extA)) | (refine But.trans ?_ (But.upd (by assumption)); exact But.ext (by (exact extA))) | exact But.at _ _ _); done))))
    | (show Z _ _ _ _ _; apply Z.then_normal)
    | (show W _ _ _ _ _ _; first | apply W.seq | apply W.region | apply W.ret)
    | fail)
  all_goals (
    refine Z.body1 Try.results158 rfl fun m => ⟨Ext.at (by assumption) m, a', cap', ?_, hS.ext ((Ext.refl _).at m)⟩
    rw [hNl]; rfl)
theorem rs_Input (gs cap : Nat) (a : Option Addr) (N : List (Int × Int)) (rest : List Piece) (w w0 : World) (hX : Ext w0 w) (hS : Sep w0.heap.size w (rsN w0.heap.size gs a cap N ++ rest)) (hN : N.length < 1048576) :
    Lt.Spec Try.prog 120 [.pointer (some ⟨gs, 0, none⟩)] w (AtRs w0 gs rest (2 * ((N.length : Int) + 1), N ++ [(-1, 0)])) := by
  refine Spec.of _ Try.func120 rfl Try.ntmps120 (by kernel_rfl) rfl ?_
  repeat' (first
    | (apply WL.build tOk; (iterate 7 exact rfl); kernel_rfl)
    | (((show WL _ _ _ (⟨_, .call ⟨.value (.func 158), _, _⟩, _, _, _, _⟩ :: _) _ _ _); apply WL.call; (iterate 4 exact rfl); exact rs_put gs cap a N (-1, 0) rest _ w0 hX hS hN; rintro v' w' ⟨hX2, a', cap', rfl, hS2⟩))
    | (show WL _ _ _ _ _ _ _; first | apply WL.nil | (refine WL.au (k := ?_)))
    | (show Z _ _ _ _ _; apply Z.then_normal)
    | (show W _ _ _ _ _ _; first | apply W.seq | apply W.region | apply W.ret)
    | fail)
  exact Z.body1 Try.results120 rfl fun m => ⟨hX2.at m, a', cap', rfl, hS2.ext ((Ext.refl _).at m)⟩

/-- And, by the reference's way. -/
theorem andV_comm_ways {N : List (Int × Int)} {x y : Int} (hx : hasL N x) (hy : hasL N y) :
    ((x = 0 ∨ y = 0 ∨ x = notL y) → andV N x y = (0, N)) ∧
    (¬ (x = 0 ∨ y = 0 ∨ x = notL y) → (x = 1 ∨ x = y) → andV N x y = (y, N)) ∧
    (¬ (x = 0 ∨ y = 0 ∨ x = notL y) → ¬ (x = 1 ∨ x = y) → y = 1 → andV N x y = (x, N)) ∧
    (¬ (x = 0 ∨ y = 0 ∨ x = notL y) → ¬ (x = 1 ∨ x = y) → ¬ y = 1 → ∀ a b : Int, a ≤ b → ((a = x ∧ b = y) ∨ (a = y ∧ b = x)) →
      (∀ i : Nat, N[i]? = some (a, b) → (∀ j : Nat, j < i → N[j]? ≠ some (a, b)) → andV N x y = (2 * ((i : Int) + 1), N)) ∧
      ((∀ j : Nat, N[j]? ≠ some (a, b)) → andV N x y = (2 * ((N.length : Int) + 1), N ++ [(a, b)]))) := by
  obtain ⟨p, q, hpq, hle, hw⟩ := andV_ways N x y
  have hh : hasL N p ∧ hasL N q := by rcases hpq with ⟨rfl, rfl⟩ | ⟨rfl, rfl⟩; exact ⟨hx, hy⟩; exact ⟨hy, hx⟩
  have hx0 := hx.1
  have hy0 := hy.1
  have hn : notL y = if y % 2 = 0 then y + 1 else y - 1 := by rw [notL_xor1 hy0]; rfl
  have hpx : Lt.xor1 q = if q % 2 = 0 then q + 1 else q - 1 := rfl
  rw [hpx] at hw
  rw [hn]
  refine ⟨fun h => ?_, fun h h1 => ?_, fun h h1 h2 => ?_, fun h h1 h2 a b hab hc => ?_⟩
  · rcases hw with ⟨h1, _⟩ | ⟨_, _, hw⟩ | ⟨_, h1, _, _⟩ | ⟨_, h1, _⟩ | ⟨_, h1, _⟩
    · exact absurd hh h1
    · exact hw
    all_goals (exfalso; rcases hpq with ⟨rfl, rfl⟩ | ⟨rfl, rfl⟩ <;> split at h <;> (try split at h1) <;> omega)
  · rcases hw with ⟨h3, _⟩ | ⟨_, h3, hw⟩ | ⟨_, h3, h4, hw⟩ | ⟨_, h3, _⟩ | ⟨_, h3, _⟩
    · exact absurd hh h3
    · exfalso; rcases hpq with ⟨rfl, rfl⟩ | ⟨rfl, rfl⟩ <;> split at h <;> split at h3 <;> omega
    · rw [hw]; congr 1; rcases hpq with ⟨rfl, rfl⟩ | ⟨rfl, rfl⟩ <;> split at h <;> split at h3 <;> omega
    all_goals (exfalso; rcases hpq with ⟨rfl, rfl⟩ | ⟨rfl, rfl⟩ <;> omega)
  · rcases hw with ⟨h3, _⟩ | ⟨_, h3, hw⟩ | ⟨_, h3, h4, hw⟩ | ⟨_, h3, _⟩ | ⟨_, h3, _⟩
    · exact absurd hh h3
    · exfalso; rcases hpq with ⟨rfl, rfl⟩ | ⟨rfl, rfl⟩ <;> split at h <;> split at h3 <;> omega
    · rw [hw]; congr 1; rcases hpq with ⟨rfl, rfl⟩ | ⟨rfl, rfl⟩ <;> split at h <;> split at h3 <;> omega
    all_goals (exfalso; rcases hpq with ⟨rfl, rfl⟩ | ⟨rfl, rfl⟩ <;> omega)
  · have e : p = a ∧ q = b := by
      rcases hpq with ⟨rfl, rfl⟩ | ⟨rfl, rfl⟩ <;> rcases hc with ⟨rfl, rfl⟩ | ⟨rfl, rfl⟩ <;> omega
    obtain ⟨rfl, rfl⟩ := e
    rcases hw with ⟨h3, _⟩ | ⟨_, h3, hw⟩ | ⟨_, h3, h4, hw⟩ | ⟨_, h3, i, i1, i2, i3, hw⟩ | ⟨_, h3, h4, hw⟩
    · exact absurd hh h3
    · exfalso; rcases hpq with ⟨rfl, rfl⟩ | ⟨rfl, rfl⟩ <;> split at h <;> split at h3 <;> omega
    · exfalso; rcases hpq with ⟨rfl, rfl⟩ | ⟨rfl, rfl⟩ <;> split at h <;> split at h3 <;> omega
    · refine ⟨fun j hj hj2 => ?_, fun hj => absurd i2 (hj i)⟩
      have : i = j := by
        rcases Nat.lt_trichotomy i j with hl | hl | hl
        · exact absurd i2 (hj2 i hl)
        · exact hl
        · exact absurd hj (i3 j hl)
      rw [hw, this]
    · exact ⟨fun j hj _ => absurd hj (h4 j), fun _ => hw⟩
end Go.Proofs.Yteidpnpbfagaeaa
namespace Go.Proofs.Yteidpnpbfagaeaa
open Go Go.Lt Go.RowKit
set_option linter.unusedVariables false
set_option linter.unusedSimpArgs false
set_option maxRecDepth 20000

/-- A machine in memory: the circuit, its net, and where its variables are. -/
structure MAt (w : World) (gm : Nat) (c : Circ) (rn : RowV (Int × Int)) (ra : RowV Int) : Prop where
  cells : Cells w gm 0 (c.vals ++ [rowVal rn, rowVal ra])
  cat : CAt w c
  net : Row 2 encN w rn.1 rn.2.2
  at_ : Row 1 encI w ra.1 ra.2.2
  en : rn.2.2 = (cNet c.t).1
  ea : ra.2.2 = (cNet c.t).2
  good : GoodC' c.t
  size : SzC c.t 100000
theorem MAt.ext {w w' : World} {gm : Nat} {c : Circ} {rn : RowV (Int × Int)} {ra : RowV Int} (h : MAt w gm c rn ra) (hx : Ext w w') : MAt w' gm c rn ra :=
  ⟨h.cells.ext hx, h.cat.ext hx, h.net.ext hx, h.at_.ext hx, h.en, h.ea, h.good, h.size⟩

theorem ref17_Brought (a : Option Addr) (cap : Nat) (l : List Bool) (m : Nat) (w : World) (R : Row 1 encB w a l) (hm : m ≤ 1048576) :
    Lt.Spec Try.prog 16 [.slice a l.length cap, .int .i64 (m : Nat)] w (IsFresh 1 encB 4 w (brV l m)) := by
  have hlen := R.len
  refine Spec.of _ Try.func16 rfl Try.ntmps16 (by kernel_rfl) rfl ?_
  repeat' (first
    | (apply WL.lit (len := 0) tOk; (iterate 6 exact rfl); (first | exact rfl | kernel_rfl | (simp [Instr.fill, catCells]; done)); exact rfl; intro gb w' hb hge hc hx; have hO0 := Own.of_block0 (enc := encB) (s := 1) hb hge)
    | (show WL _ _ _ _ _ _ _; first | apply WL.nil | (refine WL.au (k := ?_)))
    | (show Z _ _ _ _ _; apply Z.then_normal)
    | (show W _ _ _ _ _ _; first | apply W.seq | apply W.region | apply W.block)
    | fail)
  refine W.loopO m (fun k d dp w' => k ≤ m ∧ Ext w w' ∧ Own 1 encB 4 w.heap.size w' d dp (brV l k)) (fun k d dp => [(0, .slice a l.length cap), (1, .int .i64 (m : Nat)), (5, .slice d (brV l k).length dp), (6, .int .i64 k)]) (some ⟨gb, 0, none⟩) 0 ⟨Nat.zero_le _, hx, hO0⟩ (fun k d dp w' h => h.1) ⟨rfl, rfl, rfl, rfl, trivial⟩ ?_
  rintro k d dp w' ⟨hk, hx', hO'⟩
  have hbl := brV_len l k
  have e1 := brV_succ l k
  by_cases hlt : k < m
  · by_cases hkl : k < l.length
    · obtain ⟨z, hz⟩ := getI l hkl
      rw [getD_of hz] at e1
      repeat' (first
        | (apply WL.gT; exact rfl; exact rfl; (focus (first | exact dec_true (by omega); done)))
        | (apply W.condKT; exact rfl; (focus (first | exact dec_true (by omega); done)))
        | (apply WL.lit tOk; (iterate 6 exact rfl); (first | exact rfl | kernel_rfl | (simp [Instr.fill, catCells]; done)); exact rfl; intro gb w' hb hge hc hx)
        | (apply WL.append1 (z := (z)) tOk encB_ok; (iterate 10 exact rfl); assumption; (exact extA); (first | exact rfl | (focus (simp only [List.length_set]; done)) | (focus (simp; done)) | (focus (simp [*]; done)) | omega | (focus (simp only [List.length_set]; omega))); (first | assumption | (refine Cells.ext ?_ (by assumption); exact extA)); exact rfl; exact rfl; (exact extA); (first | omega | (simp; omega) | (simp at *; omega)); intro a' cap' w' hO hX' hU hF)
        | (show WL _ _ _ _ _ _ _; first | apply WL.nil | (refine WL.au (k := ?_)) | (apply WL.index tOk; (iterate 8 exact rfl); assumption; (exact extA); exact rfl; omega; assumption; intro b off h; have hcc := h; first | (obtain ⟨h1, h2, h3, h4, h5, h6, _⟩ := h) | (obtain ⟨h1, h2, h3, _⟩ := h) | (obtain ⟨h1, h2, _⟩ := h) | (obtain ⟨h1, _⟩ := h)))
        | (show Z _ _ _ _ _; first | apply Z.then_normal | apply Z.block_normal)
        | (show W _ _ _ _ _ _; first | apply W.seq | apply W.region | apply W.block | apply W.skip)
        | fail)
      exact Z.againO a' cap' ⟨by omega, hX', by rw [e1]; exact hO⟩ (by repeat' first | exact trivial | (refine And.intro ?_ ?_) | exact rfl | (rw [e1]; exact rfl))
    · rw [List.getD, List.getElem?_eq_none (by omega)] at e1
      have e1 : brV l (k + 1) = brV l k ++ [false] := e1
      repeat' (first
        | (apply WL.gF; exact rfl; exact rfl; (focus (first | exact dec_true (by omega) | exact dec_false (by omega); done)))
        | (apply W.condKT; exact rfl; (focus (first | exact dec_true (by omega) | exact dec_false (by omega); done)))
        | (apply WL.lit tOk; (iterate 6 exact rfl); (first | exact rfl | kernel_rfl | (simp [Instr.fill, catCells]; done)); exact rfl; intro gb w' hb hge hc hx)
        | (apply WL.append1 (z := (false)) tOk encB_ok; (iterate 10 exact rfl); assumption; (exact extA); (first | exact rfl | (focus (simp only [List.length_set]; done)) | (focus (simp; done)) | (focus (simp [*]; done)) | omega | (focus (simp only [List.length_set]; omega))); (first | assumption | (refine Cells.ext ?_ (by assumption); exact extA)); exact rfl; exact rfl; (exact extA); (first | omega | (simp; omega) | (simp at *; omega)); intro a' cap' w' hO hX' hU hF)
        | (show WL _ _ _ _ _ _ _; first | apply WL.nil | (refine WL.au (k := ?_)) | (apply WL.guardF; exact rfl; exact rfl))
        | (show Z _ _ _ _ _; first | apply Z.then_normal | apply Z.block_normal)
        | (show W _ _ _ _ _ _; first | apply W.seq | apply W.region | apply W.block | apply W.skip)
        | fail)
      exact Z.againO a' cap' ⟨by omega, hX', by rw [e1]; exact hO⟩ (by repeat' first | exact trivial | (refine And.intro ?_ ?_) | exact rfl | (rw [e1]; exact rfl))
  · obtain rfl : k = m := by omega
    repeat' (first
      | (apply W.condKF; exact rfl; (focus (exact dec_false (by omega); done)))
      | (show WL _ _ _ _ _ _ _; first | apply WL.nil | (refine WL.au (k := ?_)))
      | (show Z _ _ _ _ _; first | apply Z.then_normal | apply Z.then_exit | apply Z.block_exit)
      | (show W _ _ _ _ _ _; first | apply W.seq | apply W.region | apply W.ret | apply W.exit)
      | fail)
    exact Z.body1 Try.results16 rfl fun m => ⟨hx'.at m, d, dp, rfl, hO'⟩

set_option maxHeartbeats 4000000 in
theorem ref17_Lit (gm : Nat) (c : Circ) (rn : RowV (Int × Int)) (ra : RowV Int) (a b : Option Addr) (ca cb : Nat) (s i : List Bool) (l : Int) (w : World) (hM : MAt w gm c rn ra) (Rs : Row 1 encB w a s) (Ri : Row 1 encB w b i) (hl : l ∈ c.t.used) :
    Pure Try.prog 71 [.pointer (some ⟨gm, 0, none⟩), .slice a s.length ca, .slice b i.length cb, .int .i64 l] w (.bool (litV c.t s i l)) := by
  obtain ⟨hcells, hC, Rn, Ra, en, ea, hg, hz⟩ := hM
  have hcells0 := hcells
  obtain ⟨y0, y1, y2, y3, y4, y5, y6, y7, y8, y9, y10, _⟩ := hcells
  have hnl := Nat.le_trans (net_len hg hz) (show 300000 ≤ 1048576 by omega)
  have hng := (cNet_ok hg).2
  rw [← en] at hnl hng
  obtain ⟨z, z1, z2, z3, z4⟩ := net_lit hg hl
  have hlu := hg.used l hl
  have hmx := hg.max
  rw [← ea] at z1
  rw [← en] at z4
  have k1 : c.ins.2.2.length ≤ 100000 := hz.1
  have k2 : c.lat.2.2.length ≤ 100000 := hz.2.1
  have b1 := brV_len i c.ins.2.2.length
  have b2 := brV_len s c.lat.2.2.length
  have hvl := values_len' rn.2.2 (brV i c.ins.2.2.length ++ brV s c.lat.2.2.length)
  have ez : litV c.t s i l = (ofL (values rn.2.2 (brV i c.ins.2.2.length ++ brV s c.lat.2.2.length)) z != decide (l % 2 = 1)) := by
    rw [litV_ref z1 z2, en, ea]; rfl
  refine Spec.of _ Try.func71 rfl Try.ntmps71 (by kernel_rfl) rfl ?_
  repeat' (first
    | (apply FL.nilc; (iterate 3 exact rfl))
    | (show W _ _ (.region 1 _ _) _ _ _; apply W.regionGX (.fl true 0 (.fl true 1 (.fl true 2 (.fl true 3 (.fl true 4 (.fl true 8 (.fl true 9 (.fl true 10 (.fl true 11 (.fl true 12 (.fl false 5 (.fl true 6 (.fl false 13 (.fl true 14 (.br 7 (.br 15 (.br 16 (.fl true 17 .done) .stop) .stop) .stop))))))))))))))) [7, 13, 14, 15, 16] tMix; kernel_rfl)
    | ((show WL _ _ _ (⟨_, .call ⟨.value (.func 16), _, _⟩, _, _, _, _⟩ :: _) _ _ _); apply WL.call; (iterate 4 exact rfl); exact ref17_Brought _ _ i c.ins.2.2.length _ (Ri.ext (by (exact extA))) (by omega); rintro v' w' ⟨hx, a', cap', rfl, hO⟩; (obtain ⟨hO1, rfl⟩ : ∃ x, x = hO := ⟨_, rfl⟩; obtain ⟨a1, rfl⟩ : ∃ x, x = a' := ⟨_, rfl⟩; obtain ⟨c1, rfl⟩ : ∃ x, x = cap' := ⟨_, rfl⟩; obtain ⟨w1, rfl⟩ : ∃ x, x = w' := ⟨_, rfl⟩))
    | ((show WL _ _ _ (⟨_, .call ⟨.value (.func 16), _, _⟩, _, _, _, _⟩ :: _) _ _ _); apply WL.call; (iterate 4 exact rfl); exact ref17_Brought _ _ s c.lat.2.2.length _ (Rs.ext (by (exact extA))) (by omega); rintro v' w' ⟨hx, a', cap', rfl, hO⟩; (obtain ⟨hO2, rfl⟩ : ∃ x, x = hO := ⟨_, rfl⟩; obtain ⟨a2, rfl⟩ : ∃ x, x = a' := ⟨_, rfl⟩; obtain ⟨c2, rfl⟩ : ∃ x, x = cap' := ⟨_, rfl⟩; have R2 := hO2.row encB_ok; have n2 := hO2.noneCap))
    | (apply WL.appendS tOk encB_ok; (iterate 10 exact rfl); assumption; (exact extA); (first | exact rfl | (focus (simp only [List.length_set]; done)) | (focus (simp; done)) | (focus (simp [*]; done)) | omega | (focus (simp only [List.length_set]; omega))); assumption; (exact extA); (first | exact rfl | (focus (simp only [List.length_set]; done)) | (focus (simp; done)) | (focus (simp [*]; done)) | omega | (focus (simp only [List.length_set]; omega))); (first | assumption | (intro h; cases h) | exact Own.noneCap (by assumption)); exact rfl; (exact extA); (first | omega | (simp; omega) | (simp at *; omega)); intro a' cap' w' hO hX' hU hF)
    | (show SX _ _ _ _ _ _ _ _ _; first | (apply SX.done; intro w' hx) | (apply SX.fl0; exact rfl) | (apply SX.fl1; exact rfl; (exact extA)) | (apply SX.br1; exact rfl; intro w' hx))
    | (show FL _ _ _ _ _ _ _ _; first | apply FL.nilX | (apply FL.loadE tOk; (iterate 5 exact rfl); (first | assumption | (focus (apply Ext.cell; rotate_left; assumption; exact extA; done)))))
    | (show FL _ _ _ _ _ _ _ _; (refine FL.au (k := ?_)))
    | (show Z _ _ _ _ _; (apply Z.sxE; (exact extA)))
    | (show WL _ _ _ _ _ _ _; first | apply WL.nil | (refine WL.au (k := ?_)))
    | (show Z _ _ _ _ _; apply Z.then_normal)
    | (show W _ _ _ _ _ _; first | apply W.seq | apply W.region)
    | fail)
  obtain ⟨w5, rfl⟩ : ∃ x, x = w' := ⟨_, rfl⟩; obtain ⟨a5, rfl⟩ : ∃ x, x = a' := ⟨_, rfl⟩; obtain ⟨c5, rfl⟩ : ∃ x, x = cap' := ⟨_, rfl⟩
  have hX5 : Ext w w5 := (by (exact extA))
  have Rv := hO.row encB_ok
  have Ra5 := Ra.ext hX5
  clear y0 y1 y2 y3 y4 y5 y6 y7 y8 y9 y10
  have hcells := hcells0.ext hX5
  obtain ⟨y0, y1, y2, y3, y4, y5, y6, y7, y8, y9, y10, _⟩ := hcells
  repeat' (first
    | (apply FL.nilc; (iterate 3 exact rfl))
    | (show W _ _ (.region 2 _ _) _ _ _; apply W.regionGX (.fl true 0 (.fl true 1 (.fl true 2 (.fl true 4 (.fl true 6 (.fl true 7 (.fl true 8 (.fl true 10 (.fl true 11 (.fl true 15 (.fl true 16 (.fl true 17 (.fl false 3 (.fl false 9 (.fl true 12 (.fl false 13 (.br 5 (.br 14 (.fl true 18 (.fl true 19 .done)) .stop) .stop))))))))))))))))) [5, 9, 12, 13, 14, 18] tMix; kernel_rfl)
    | ((show WL _ _ _ (⟨_, .call ⟨.value (.func 22), _, _⟩, _, _, _, _⟩ :: _) _ _ _); apply WL.call; (iterate 4 exact rfl); exact ref07_Values _ _ _ _ rn.2.2 _ _ (Rn.ext (by (exact extA))) (Rv.ext (by (exact extA))) hng hnl; rintro v' w' ⟨hx, a', cap', rfl, hO⟩; (obtain ⟨hOv, rfl⟩ : ∃ x, x = hO := ⟨_, rfl⟩; obtain ⟨av, rfl⟩ : ∃ x, x = a' := ⟨_, rfl⟩; obtain ⟨cv, rfl⟩ : ∃ x, x = cap' := ⟨_, rfl⟩; have RV := hOv.row encB_ok))
    | ((show WL _ _ _ (⟨_, .call ⟨.value (.func 40), _, _⟩, _, _, _, _⟩ :: _) _ _ _); apply WL.callS; (iterate 4 exact rfl); exact ref07_Of _ _ _ z _ (RV.ext (by (exact extA))) ⟨z2, by omega, by omega⟩)
    | (show SX _ _ _ _ _ _ _ _ _; first | (apply SX.done; intro w' hx) | (apply SX.fl0; exact rfl) | (apply SX.fl1; exact rfl; (exact extA)) | (apply SX.br1; exact rfl; intro w' hx))
    | (show FL _ _ _ _ _ _ _ _; first | apply FL.nilX | (apply FL.loadE tOk; (iterate 5 exact rfl); (first | assumption | (focus (apply Ext.cell; rotate_left; assumption; exact extA; done)))) | (apply FL.indexE tOk; (iterate 8 exact rfl); assumption; exact rfl; omega; assumption; intro b off h; have hcc := h; first | (obtain ⟨h1, h2, h3, h4, h5, h6, _⟩ := h) | (obtain ⟨h1, h2, h3, _⟩ := h) | (obtain ⟨h1, h2, _⟩ := h) | (obtain ⟨h1, _⟩ := h)))
    | (show FL _ _ _ _ _ _ _ _; (refine FL.au (k := ?_)))
    | (show Z _ _ _ _ _; (apply Z.sxE; (exact extA)))
    | (show WL _ _ _ _ _ _ _; apply WL.nil)
    | (show Z _ _ _ _ _; apply Z.then_normal)
    | (show W _ _ _ _ _ _; apply W.ret)
    | fail)
  exact Z.body1 Try.results71 rfl fun m => ⟨by rw [ez]; exact congrArg Value.bool (by rw [dec_ne_dec]), Ext.at (by (exact extA)) m⟩

theorem nextT_succ {c : CirT} {s i : List Bool} {k : Nat} {x : T3} (h : c.lat[k]? = some x) : (c.lat.take (k + 1)).map (fun x => litV c s i x.2.1) = (c.lat.take k).map (fun x => litV c s i x.2.1) ++ [litV c s i x.2.1] := by
  rw [take_succ' h, List.map_append]; rfl
set_option maxHeartbeats 1000000 in
theorem ref17_Next (gm : Nat) (c : Circ) (rn : RowV (Int × Int)) (ra : RowV Int) (a b : Option Addr) (ca cb : Nat) (s i : List Bool) (w : World) (hM : MAt w gm c rn ra) (Rs : Row 1 encB w a s) (Ri : Row 1 encB w b i) :
    Lt.Spec Try.prog 18 [.pointer (some ⟨gm, 0, none⟩), .slice a s.length ca, .slice b i.length cb] w (IsFresh 1 encB 4 w (nextV c.t s i)) := by
  have hM' := hM
  obtain ⟨hcells, hC, Rn, Ra, en, ea, hg, hz⟩ := hM
  have k2 : c.lat.2.2.length ≤ 100000 := hz.2.1
  have Rl := hC.lat.row
  refine Spec.of _ Try.func18 rfl Try.ntmps18 (by kernel_rfl) rfl ?_
  repeat' (first
    | (apply WL.lit (len := 0) tOk; (iterate 6 exact rfl); (first | exact rfl | kernel_rfl | (simp [Instr.fill, catCells]; done)); exact rfl; intro gb w' hb hge hc hx; have hO0 := Own.of_block0 (enc := encB) (s := 1) hb hge)
    | (show WL _ _ _ _ _ _ _; first | apply WL.nil | (refine WL.au (k := ?_)))
    | (show Z _ _ _ _ _; apply Z.then_normal)
    | (show W _ _ _ _ _ _; first | apply W.seq | apply W.region | apply W.block)
    | fail)
  refine W.loopO c.lat.2.2.length (fun k d dp w' => k ≤ c.lat.2.2.length ∧ Ext w w' ∧ Own 1 encB 4 w.heap.size w' d dp ((c.t.lat.take k).map (fun x => litV c.t s i x.2.1)))
    (fun k d dp => [(0, .pointer (some ⟨gm, 0, none⟩)), (1, .slice a s.length ca), (2, .slice b i.length cb), (7, .slice d ((c.t.lat.take k).map (fun x => litV c.t s i x.2.1)).length dp), (8, .int .i64 k)]) (some ⟨gb, 0, none⟩) 0 ⟨Nat.zero_le _, hx, hO0⟩ (fun k d dp w' h => h.1) ⟨rfl, rfl, rfl, rfl, rfl, trivial⟩ ?_
  rintro k d dp w1 ⟨hk, hx1, hO'⟩
  have hl : ((c.t.lat.take k).map (fun x => litV c.t s i x.2.1)).length = k := by rw [List.length_map, List.length_take]; exact Nat.min_eq_left hk
  have hc1 := hcells.ext hx1
  obtain ⟨y0, y1, y2, _⟩ := hc1
  have Rl1 := Rl.ext hx1
  by_cases hlt : k < c.lat.2.2.length
  · obtain ⟨x, hxx⟩ := getI c.lat.2.2 hlt
    have hu : x.2.1 ∈ c.t.used := used_next (List.mem_of_getElem? hxx)
    have e1 := nextT_succ (c := c.t) (s := s) (i := i) hxx
    repeat' (first
      | (apply WL.nilc; (iterate 3 exact rfl))
      | (apply W.condKT; exact rfl; (focus (exact dec_true (by omega); done)))
      | ((show WL _ _ _ (⟨_, .call ⟨.value (.func 71), _, _⟩, _, _, _, _⟩ :: _) _ _ _); apply WL.callP; (iterate 4 exact rfl); exact ref17_Lit gm c rn ra _ _ _ _ s i x.2.1 _ (hM'.ext (by (exact extA))) (Rs.ext (by (exact extA))) (Ri.ext (by (exact extA))) hu; intro w' hx)
      | (apply WL.lit tOk; (iterate 6 exact rfl); (first | exact rfl | kernel_rfl | (simp [Instr.fill, catCells]; done)); exact rfl; intro gb w' hb hge hc hx)
      | (apply WL.append1 (z := (litV c.t s i x.2.1)) tOk encB_ok; (iterate 10 exact rfl); assumption; (exact extA); (first | exact rfl | (focus (simp only [List.length_set]; done)) | (focus (simp; done)) | (focus (simp [*]; done)) | omega | (focus (simp only [List.length_set]; omega))); (first | assumption | (refine Cells.ext ?_ (by assumption); exact extA)); exact rfl; exact rfl; (exact extA); (first | omega | (simp; omega) | (simp at *; omega)); intro a' cap' w' hO hX' hU hF)
      | (show WL _ _ _ _ _ _ _; first | apply WL.nil | (refine WL.au (k := ?_)) | (apply WL.index tOk; (iterate 8 exact rfl); assumption; (exact extA); exact rfl; omega; assumption; intro b off h; have hcc := h; first | (obtain ⟨h1, h2, h3, h4, h5, h6, _⟩ := h) | (obtain ⟨h1, h2, h3, _⟩ := h) | (obtain ⟨h1, h2, _⟩ := h) | (obtain ⟨h1, _⟩ := h)))
      | (show Z _ _ _ _ _; first | apply Z.then_normal | apply Z.block_normal)
      | (show W _ _ _ _ _ _; first | apply W.seq | apply W.region | apply W.block | apply W.skip)
      | fail)
    exact Z.againO a' cap' ⟨by omega, hX', by rw [e1]; exact hO⟩ (by repeat' first | exact trivial | (refine And.intro ?_ ?_) | exact rfl | (rw [e1]; exact rfl))
  · obtain rfl : k = c.lat.2.2.length := by omega
    have e9 : (c.t.lat.take c.lat.2.2.length).map (fun x => litV c.t s i x.2.1) = nextV c.t s i := by rw [List.take_of_length_le (Nat.le_refl _)]; rfl
    repeat' (first
      | (apply WL.nilc; (iterate 3 exact rfl))
      | (apply W.condKF; exact rfl; (focus (exact dec_false (by omega); done)))
      | (show WL _ _ _ _ _ _ _; first | apply WL.nil | (refine WL.au (k := ?_)))
      | (show Z _ _ _ _ _; first | apply Z.then_normal | apply Z.then_exit | apply Z.block_exit)
      | (show W _ _ _ _ _ _; first | apply W.seq | apply W.region | apply W.ret | apply W.exit)
      | fail)
    rw [e9] at hO'
    exact Z.body1 Try.results18 rfl fun m => ⟨hx1.at m, d, dp, by rw [e9], hO'⟩
end Go.Proofs.Yteidpnpbfagaeaa
namespace Go.Lt
open Go.RowKit
set_option linter.unusedVariables false

theorem OwnRR.nil {α : Type} {s : Nat} {enc : α → List Value} {el elO B : Nat} {w : World} {a : Option Addr} {cap : Nat} (h : Own 1 encRow elO B w a cap ([] : List (RowV α))) : OwnRR s enc el elO B w a cap [] :=
  ⟨h, fun i r hr => by simp at hr, fun i r hr => by simp at hr, fun i j r q hr => by simp at hr⟩
/-- Rows told, and one more that is not put behind yet. -/
structure RR1 {α : Type} (s : Nat) (enc : α → List Value) (el elO B : Nat) (w : World) (a : Option Addr) (cap : Nat) (rs : List (RowV α)) (b : Option Addr) (dp : Nat) (S : List α) : Prop where
  rr : OwnRR s enc el elO B w a cap rs
  own : Own s enc el B w b dp S
  apartO : blk b = none ∨ blk b ≠ blk a
  apart : ∀ (i : Nat) (q : RowV α), rs[i]? = some q → blk q.1 = none ∨ blk q.1 ≠ blk b
section
variable {α : Type} {s : Nat} {enc : α → List Value} {el elO B : Nat} {w w1 w2 w3 : World} {a a' b : Option Addr} {cap cap' dp : Nat} {rs : List (RowV α)} {S : List α}
theorem RR1.ext (h : RR1 s enc el elO B w a cap rs b dp S) (hx : Ext w w1) : RR1 s enc el elO B w1 a cap rs b dp S := ⟨h.rr.ext hx, h.own.ext hx, h.apartO, h.apart⟩
theorem RR1.new (h : OwnRR s enc el elO B w1 a cap rs) (hx : Ext w1 w2) (hO : Own s enc el w1.heap.size w2 b dp S) (hB : B ≤ w1.heap.size) : RR1 s enc el elO B w2 a cap rs b dp S := by
  refine ⟨h.ext hx, hO.base hB, ?_, fun i q hq => ?_⟩
  · cases hb : blk b with
    | none => exact .inl rfl
    | some k =>
      refine .inr fun he => ?_
      have h1 := (hO.blk_lt k hb).1
      have h2 := (h.outer.blk_lt k he.symm).2
      omega
  · cases hb : blk q.1 with
    | none => exact .inl rfl
    | some k =>
      refine .inr fun he => ?_
      have h1 := ((h.inner i q hq).blk_lt k hb).2
      have h2 := (hO.blk_lt k he.symm).1
      omega
theorem RR1.first {g c0 : Nat} (hO : Own s enc el B w b dp S) (h : Own 1 encRow elO B w (some ⟨g, 0, none⟩) c0 ([] : List (RowV α))) (hg : ∀ k, blk b = some k → k ≠ g) : RR1 s enc el elO B w (some ⟨g, 0, none⟩) c0 [] b dp S := by
  refine ⟨OwnRR.nil h, hO, ?_, fun i q hq => by simp at hq⟩
  cases hb : blk b with
  | none => exact .inl rfl
  | some k =>
    refine .inr fun he => hg k hb ?_
    simp only [blk, Option.map_some, Option.some.injEq] at he; exact he
theorem RR1.push (h : RR1 s enc el elO B w2 a cap rs b dp S) (hU : Upd B a w2 w3) (hO : Own 1 encRow elO B w3 a' cap' (rs ++ [(b, dp, S)])) (hF : blk a' = blk a ∨ ∃ k, blk a' = some k ∧ w2.heap.size ≤ k) : OwnRR s enc el elO B w3 a' cap' (rs ++ [(b, dp, S)]) := by
  obtain ⟨hr, ho, hA, hI⟩ := h
  have get : ∀ (i : Nat) (q : RowV α), (rs ++ [(b, dp, S)])[i]? = some q → (i < rs.length ∧ rs[i]? = some q) ∨ (i = rs.length ∧ q = (b, dp, S)) := fun i q hq => by
    by_cases hi : i < rs.length
    · rw [List.getElem?_append_left hi] at hq; exact .inl ⟨hi, hq⟩
    · rw [List.getElem?_append_right (by omega)] at hq
      have h0 := lt_of_get hq
      simp at h0
      have h1 : i - rs.length = 0 := by omega
      rw [h1] at hq
      simp at hq
      exact .inr ⟨by omega, hq.symm⟩
  have lt2 : ∀ (i : Nat) (q : RowV α) (k : Nat), (rs ++ [(b, dp, S)])[i]? = some q → blk q.1 = some k → k < w2.heap.size := fun i q k hq hk => by
    rcases get i q hq with ⟨_, hq⟩ | ⟨_, rfl⟩
    · exact ((hr.inner i q hq).blk_lt k hk).2
    · exact (ho.blk_lt k hk).2
  have apA : ∀ (i : Nat) (q : RowV α), (rs ++ [(b, dp, S)])[i]? = some q → blk q.1 = none ∨ blk q.1 ≠ blk a := fun i q hq => by
    rcases get i q hq with ⟨_, hq⟩ | ⟨_, rfl⟩
    · exact hr.apartO i q hq
    · exact hA
  refine ⟨hO, fun i q hq => ?_, fun i q hq => ?_, fun i j q p h1 h2 hne => ?_⟩
  · rcases get i q hq with ⟨_, hq'⟩ | ⟨_, rfl⟩
    · exact hU.own (hr.inner i q hq') (hr.apartO i q hq')
    · exact hU.own ho hA
  · rcases hF with hF | ⟨k, hk, hle⟩
    · rw [hF]; exact apA i q hq
    · cases hb : blk q.1 with
      | none => exact .inl rfl
      | some b =>
        refine .inr fun he => ?_
        have := lt2 i q b hq hb
        rw [hk] at he
        have := Option.some.inj he
        omega
  · rcases get i q h1 with ⟨_, h1'⟩ | ⟨rfl, rfl⟩
    · rcases get j p h2 with ⟨_, h2'⟩ | ⟨rfl, rfl⟩
      · exact hr.apart i j q p h1' h2' hne
      · exact hI i q h1'
    · rcases get j p h2 with ⟨_, h2'⟩ | ⟨rfl, rfl⟩
      · show blk b = none ∨ blk b ≠ blk p.1
        cases hb : blk b with
        | none => exact .inl rfl
        | some k =>
          refine .inr fun he => ?_
          rcases hI j p h2' with h3 | h3
          · rw [h3] at he; cases he
          · exact h3 (by rw [hb]; exact he.symm)
      · exact absurd rfl hne
end
theorem OwnRR.base {α : Type} {s : Nat} {enc : α → List Value} {el elO B C : Nat} {w : World} {a : Option Addr} {cap : Nat} {rs : List (RowV α)} (h : OwnRR s enc el elO C w a cap rs) (hB : B ≤ C) : OwnRR s enc el elO B w a cap rs := ⟨h.outer.base hB, fun i r hr => (h.inner i r hr).base hB, h.apartO, h.apart⟩
theorem OwnRR.row {α : Type} {s : Nat} {enc : α → List Value} {el elO B : Nat} {w : World} {a : Option Addr} {cap : Nat} {rs : List (RowV α)} (h : OwnRR s enc el elO B w a cap rs) (hE : Enc s enc) {i : Nat} {r : RowV α} (hr : rs[i]? = some r) : Row s enc w r.1 r.2.2 := (h.inner i r hr).row hE
theorem OwnRR.at {α : Type} {s : Nat} {enc : α → List Value} {el elO B : Nat} {w : World} {a : Option Addr} {cap : Nat} {rs : List (RowV α)} (h : OwnRR s enc el elO B w a cap rs) (m : Nat) : OwnRR s enc el elO B (at' w m) a cap rs := h.ext ((Ext.refl w).at m)
end Go.Lt
namespace Go.Proofs.Yteidpnpbfagaeaa
open Go Go.Lt Go.RowKit
set_option linter.unusedVariables false
set_option linter.unusedSimpArgs false
set_option maxRecDepth 20000

set_option maxHeartbeats 1000000 in
theorem ref17_Bad (gm : Nat) (c : Circ) (rn : RowV (Int × Int)) (ra : RowV Int) (a b : Option Addr) (ca cb : Nat) (s i : List Bool) (p : Int) (w : World) (hM : MAt w gm c rn ra) (Rs : Row 1 encB w a s) (Ri : Row 1 encB w b i) :
    Pure Try.prog 19 [.pointer (some ⟨gm, 0, none⟩), .slice a s.length ca, .slice b i.length cb, .int .i64 p] w (.bool (dec (BadP c.t s i p))) := by
  have hM' := hM
  obtain ⟨hcells, hC, Rn, Ra, en, ea, hg, hz⟩ := hM
  obtain ⟨y0, y1, y2, y3, y4, _⟩ := hcells
  have Rb := hC.bads.row
  have hbl := Rb.len
  by_cases q1 : 0 ≤ p
  · by_cases q2 : p < c.bads.2.2.length
    · obtain ⟨l, hl⟩ := getI c.bads.2.2 (show p.toNat < c.bads.2.2.length by omega)
      have e : dec (BadP c.t s i p) = litV c.t s i l := by
        cases hv : litV c.t s i l
        · refine dec_false fun h => ?_
          obtain ⟨_, l', h1, h2⟩ := h
          have : c.bads.2.2[p.toNat]? = some l' := h1
          rw [hl] at this; cases this
          rw [hv] at h2; cases h2
        · exact dec_true ⟨q1, l, hl, hv⟩
      refine Spec.of _ Try.func19 rfl Try.ntmps19 (by kernel_rfl) rfl ?_
      repeat' (first
        | (apply WL.nilc; (iterate 3 exact rfl))
        | (apply WL.gT; exact rfl; exact rfl; (focus (first | exact dec_true q1 | exact dec_true q2; done)))
        | ((show WL _ _ _ (⟨_, .call ⟨.value (.func 71), _, _⟩, _, _, _, _⟩ :: _) _ _ _); apply WL.callP; (iterate 4 exact rfl); exact ref17_Lit gm c rn ra _ _ _ _ s i l _ (hM'.ext (by (exact extA))) (Rs.ext (by (exact extA))) (Ri.ext (by (exact extA))) (used_bad (List.mem_of_getElem? hl)); intro w' hx)
        | (show WL _ _ _ _ _ _ _; first | apply WL.nil | (refine WL.au (k := ?_)) | (apply WL.index tOk; (iterate 8 exact rfl); assumption; (exact extA); exact rfl; omega; assumption; intro b off h; have hcc := h; first | (obtain ⟨h1, h2, h3, h4, h5, h6, _⟩ := h) | (obtain ⟨h1, h2, h3, _⟩ := h) | (obtain ⟨h1, h2, _⟩ := h) | (obtain ⟨h1, _⟩ := h)))
        | (show Z _ _ _ _ _; apply Z.then_normal)
        | (show W _ _ _ _ _ _; first | apply W.seq | apply W.region | apply W.ret)
        | fail)
      exact Z.body1 Try.results19 rfl fun m => ⟨by rw [e], Ext.at (by (exact extA)) m⟩
    · have e : dec (BadP c.t s i p) = false := dec_false fun h => by
        obtain ⟨_, l', h1, h2⟩ := h
        have := lt_of_get h1
        have : p.toNat < c.bads.2.2.length := this
        omega
      refine Spec.of _ Try.func19 rfl Try.ntmps19 (by kernel_rfl) rfl ?_
      repeat' (first
        | (apply WL.nilc; (iterate 3 exact rfl))
        | (apply WL.gT; exact rfl; exact rfl; (focus (first | exact dec_true q1 | exact dec_false q2; done)))
        | (apply WL.gF; exact rfl; exact rfl; (focus (first | exact dec_true q1 | exact dec_false q2; done)))
        | (show WL _ _ _ _ _ _ _; first | apply WL.nil | (refine WL.au (k := ?_)) | (apply WL.guardF; exact rfl; exact rfl))
        | (show Z _ _ _ _ _; apply Z.then_normal)
        | (show W _ _ _ _ _ _; first | apply W.seq | apply W.region | apply W.ret)
        | fail)
      exact Z.body1 Try.results19 rfl fun m => ⟨by rw [e], Ext.at (by (exact extA)) m⟩
  · have e : dec (BadP c.t s i p) = false := dec_false fun h => q1 h.1
    refine Spec.of _ Try.func19 rfl Try.ntmps19 (by kernel_rfl) rfl ?_
    repeat' (first
      | (apply WL.gF; exact rfl; exact rfl; (focus (exact dec_false q1; done)))
      | (show WL _ _ _ _ _ _ _; first | apply WL.nil | (refine WL.au (k := ?_)) | (apply WL.guardF; exact rfl; exact rfl))
      | (show Z _ _ _ _ _; apply Z.then_normal)
      | (show W _ _ _ _ _ _; first | apply W.seq | apply W.region | apply W.ret)
      | fail)
    exact Z.body1 Try.results19 rfl fun m => ⟨by rw [e], Ext.at (by (exact extA)) m⟩

set_option maxHeartbeats 1000000 in
theorem ref17_Holds (gm : Nat) (c : Circ) (rn : RowV (Int × Int)) (ra : RowV Int) (a b : Option Addr) (ca cb : Nat) (s i : List Bool) (w : World) (hM : MAt w gm c rn ra) (Rs : Row 1 encB w a s) (Ri : Row 1 encB w b i) :
    Pure Try.prog 17 [.pointer (some ⟨gm, 0, none⟩), .slice a s.length ca, .slice b i.length cb] w (.bool (dec (HoldsP c.t s i))) := by
  have hM' := hM
  obtain ⟨hcells, hC, Rn, Ra, en, ea, hg, hz⟩ := hM
  have Rc := hC.cons.row
  have hbl := Rc.len
  refine Spec.of _ Try.func17 rfl Try.ntmps17 (by kernel_rfl) rfl ?_
  repeat' (first
    | (show WL _ _ _ _ _ _ _; first | apply WL.nil | (refine WL.au (k := ?_)))
    | (show Z _ _ _ _ _; apply Z.then_normal)
    | (show W _ _ _ _ _ _; first | apply W.seq | apply W.region | apply W.block)
    | fail)
  refine W.loopW c.cons.2.2.length (fun k w' => k ≤ c.cons.2.2.length ∧ Ext w w' ∧ ∀ (j : Nat) l, j < k → c.cons.2.2[j]? = some l → litV c.t s i l = true) (fun k => [(0, .pointer (some ⟨gm, 0, none⟩)), (1, .slice a s.length ca), (2, .slice b i.length cb), (7, .int .i64 k)]) ⟨Nat.zero_le _, Ext.refl _, fun j l h => by omega⟩ (fun k w' h => h.1) ⟨rfl, rfl, rfl, rfl, trivial⟩ ?_
  rintro k w1 ⟨hk, hx1, hall⟩
  have hc1 := hcells.ext hx1
  obtain ⟨y0, y1, y2, y3, y4, y5, _⟩ := hc1
  have Rc1 := Rc.ext hx1
  by_cases hlt : k < c.cons.2.2.length
  · obtain ⟨l, hl⟩ := getI c.cons.2.2 hlt
    have hu : l ∈ c.t.used := used_con (List.mem_of_getElem? hl)
    have hr := fun (w9 : World) (h9 : Ext w w9) => ref17_Lit gm c rn ra a b ca cb s i l w9 (hM'.ext h9) (Rs.ext h9) (Ri.ext h9) hu
    cases hv : litV c.t s i l <;> rw [hv] at hr
    · have e : dec (HoldsP c.t s i) = false := dec_false fun h => by have := h l (List.mem_of_getElem? hl); rw [hv] at this; cases this
      repeat' (first
        | (apply WL.nilc; (iterate 3 exact rfl))
        | (apply W.condKT; exact rfl; (focus (first | exact dec_true (by omega); done)))
        | (((show WL _ _ _ (⟨_, .call ⟨.value (.func 71), _, _⟩, _, _, _, _⟩ :: _) _ _ _); apply WL.callP; (iterate 4 exact rfl); exact hr _ (by (exact extA)); intro w' hx))
        | (show WL _ _ _ _ _ _ _; first | apply WL.nil | (refine WL.au (k := ?_)) | (apply WL.index tOk; (iterate 8 exact rfl); assumption; (exact extA); exact rfl; omega; assumption; intro b off h; have hcc := h; first | (obtain ⟨h1, h2, h3, h4, h5, h6, _⟩ := h) | (obtain ⟨h1, h2, h3, _⟩ := h) | (obtain ⟨h1, h2, _⟩ := h) | (obtain ⟨h1, _⟩ := h)))
        | (show Z _ _ _ _ _; first | apply Z.then_normal | apply Z.then_ret | apply Z.block_ret)
        | (show W _ _ _ _ _ _; first | apply W.seq | apply W.region | apply W.block | apply W.skip | apply W.ret | (apply W.condT; exact rfl))
        | fail)
      exact Z.body1 Try.results17 rfl fun m => ⟨by rw [e], Ext.at (by (exact extA)) m⟩
    · repeat' (first
        | (apply WL.nilc; (iterate 3 exact rfl))
        | (apply W.condKT; exact rfl; (focus (first | exact dec_true (by omega); done)))
        | (((show WL _ _ _ (⟨_, .call ⟨.value (.func 71), _, _⟩, _, _, _, _⟩ :: _) _ _ _); apply WL.callP; (iterate 4 exact rfl); exact hr _ (by (exact extA)); intro w' hx))
        | (show WL _ _ _ _ _ _ _; first | apply WL.nil | (refine WL.au (k := ?_)) | (apply WL.index tOk; (iterate 8 exact rfl); assumption; (exact extA); exact rfl; omega; assumption; intro b off h; have hcc := h; first | (obtain ⟨h1, h2, h3, h4, h5, h6, _⟩ := h) | (obtain ⟨h1, h2, h3, _⟩ := h) | (obtain ⟨h1, h2, _⟩ := h) | (obtain ⟨h1, _⟩ := h)))
        | (show Z _ _ _ _ _; first | apply Z.then_normal | apply Z.block_normal)
        | (show W _ _ _ _ _ _; first | apply W.seq | apply W.region | apply W.block | apply W.skip | (apply W.condF; exact rfl))
        | fail)
      refine Z.againW ⟨by omega, (by (exact extA)), fun j l' hj h1 => ?_⟩ ⟨rfl, rfl, rfl, rfl, trivial⟩
      by_cases hjk : j = k
      · subst hjk; rw [hl] at h1; cases h1; exact hv
      · exact hall j l' (by omega) h1
  · obtain rfl : k = c.cons.2.2.length := by omega
    have e : dec (HoldsP c.t s i) = true := dec_true fun l h => by
      obtain ⟨j, hj⟩ := List.mem_iff_getElem?.1 h
      exact hall j l (lt_of_get hj) hj
    repeat' (first
      | (apply WL.nilc; (iterate 3 exact rfl))
      | (apply W.condKF; exact rfl; (focus (exact dec_false (by omega); done)))
      | (show WL _ _ _ _ _ _ _; first | apply WL.nil | (refine WL.au (k := ?_)))
      | (show Z _ _ _ _ _; first | apply Z.then_normal | apply Z.then_exit | apply Z.block_exit)
      | (show W _ _ _ _ _ _; first | apply W.seq | apply W.region | apply W.ret | apply W.exit)
      | fail)
    exact Z.body1 Try.results17 rfl fun m => ⟨by rw [e], Ext.at (by (exact extA)) m⟩

set_option maxHeartbeats 1000000 in
theorem ref17_New (c : Circ) (w : World) (hC : CAt w c) (hg : GoodC' c.t) (hz : SzC c.t 100000) :
    Lt.Spec Try.prog 15 [c.val] w (fun v w' => Ext w w' ∧ ∃ gm rn ra, v = .pointer (some ⟨gm, 0, none⟩) ∧ MAt w' gm c rn ra ∧ w.heap.size ≤ gm) := by
  refine Spec.of _ Try.func15 rfl Try.ntmps15 (by kernel_rfl) rfl ?_
  repeat' (first
    | (apply WL.box; (iterate 3 exact rfl); intro gb w' hb hge hc hx; have hcc := hc; (first | (obtain ⟨h1, h2, h3, _⟩ := hc) | (obtain ⟨h1, h2, _⟩ := hc)); (first | (have h_0 := hcells; clear h_0) | (have hcells := hcc; obtain ⟨gc, rfl⟩ : ∃ x, x = gb := ⟨_, rfl⟩; obtain ⟨wc, rfl⟩ : ∃ x, x = w' := ⟨_, rfl⟩; obtain ⟨hxc, rfl⟩ : ∃ x, x = hx := ⟨_, rfl⟩)))
    | (((show WL _ _ _ (⟨_, .call ⟨.value (.func 63), _, _⟩, _, _, _, _⟩ :: _) _ _ _); apply WL.call; (iterate 4 exact rfl); exact ref11_Net c _ (hC.ext (by (exact extA))) hg hz; rintro v' w7 ⟨hx7, am, cm, ab, cb, rfl, hOm, hOb⟩; have hcells7 := hcells.ext hx7; have Rm := hOm.row encN_ok; have Rb := hOb.row encI_ok))
    | (apply WL.build tOk; (iterate 7 exact rfl); kernel_rfl)
    | (show WL _ _ _ _ _ _ _; first | apply WL.nil | (refine WL.au (k := ?_)))
    | (show Z _ _ _ _ _; apply Z.then_normal)
    | (show W _ _ _ _ _ _; first | apply W.seq | apply W.region | apply W.ret)
    | fail)
  have hcm : Cells w' gb 0 (c.vals ++ [.slice am (cNet c.t).1.length cm, .slice ab (cNet c.t).2.length cb]) := hcc
  exact Z.body1 Try.results15 rfl fun m => ⟨Ext.at (by (exact extA)) m, gb, (am, cm, (cNet c.t).1), (ab, cb, (cNet c.t).2), rfl, (MAt.mk hcm (hC.ext (by (exact extA))) (Rm.ext (by (exact extA))) (Rb.ext (by (exact extA))) rfl rfl hg hz : MAt w' gb c (am, cm, (cNet c.t).1) (ab, cb, (cNet c.t).2)).ext ((Ext.refl _).at m), Nat.le_trans (Below.size (show Ext w w7 from (by (exact extA)))) hge⟩

abbrev encRB : RowV Bool → List Value := encRow
/-- A run by value: its rows, with where they lie. -/
structure RunV where
  st : RowV Bool
  ins : RowV (RowV Bool)
abbrev RunV.val (r : RunV) : Value := .agg #[rowVal r.st, rowVal r.ins]
abbrev RunV.s (r : RunV) : List Bool := r.st.2.2
abbrev RunV.i (r : RunV) : List (List Bool) := r.ins.2.2.map (·.2.2)
structure RAt (w : World) (r : RunV) : Prop where
  st : Row 1 encB w r.st.1 r.st.2.2
  ins : Row 1 encRB w r.ins.1 r.ins.2.2
  each : ∀ x ∈ r.ins.2.2, Row 1 encB w x.1 x.2.2
theorem RAt.ext {w w' : World} {r : RunV} (h : RAt w r) (hx : Ext w w') : RAt w' r := ⟨h.st.ext hx, h.ins.ext hx, fun x h1 => (h.each x h1).ext hx⟩
end Go.Proofs.Yteidpnpbfagaeaa
namespace Go.Lt
open Go.RowKit
set_option linter.unusedVariables false
set_option linter.unusedSimpArgs false

/-- Keys that are found by what they are. -/
structure KeyF {κ : Type} (P : Program) (kt : TypeId) (kv : κ → Value) : Prop where
  find : ∀ {ν : Type} (vv : ν → Value) (a : κ) (w : World) (es : List MapEntry) (L : List (κ × ν)), es.map (fun e => (e.key, e.val)) = L.map (fun x => (kv x.1, vv x.2)) → (Instr.findKey kt (kv a) es).run P w = .ok (mfind vv a L 0) w
  chk : ∀ empty a w, (Instr.checkKey empty 10000 kt (kv a)).run P w = .ok () w
  same : ∀ a, Instr.sameBits 10000 (kv a) (kv a) = true
theorem findNow_of {κ ν : Type} {d : TypeDesc} {kv : κ → Value} {vv : ν → Value} (h : ∀ a b, Instr.sameNow d (kv a) (kv b) = some (dec (a = b))) (a : κ) : ∀ (es : List MapEntry) (L : List (κ × ν)) (i : Nat), es.map (fun e => (e.key, e.val)) = L.map (fun x => (kv x.1, vv x.2)) → Instr.findNow d (kv a) es i = some (mfind vv a L i)
  | [], [], i, _ => rfl
  | [], x :: r, i, h' => by simp at h'
  | e :: es, [], i, h' => by simp at h'
  | e :: es, x :: r, i, h' => by
    simp only [List.map_cons, List.cons.injEq, Prod.mk.injEq] at h'
    obtain ⟨⟨h1, h2⟩, h3⟩ := h'
    have ih := findNow_of (vv := vv) h a es r (i + 1) h3
    unfold Instr.findNow mfind
    rw [h1, h a x.1]
    cases dec (a = x.1)
    · exact ih
    · simp only [cond_true, h2]
theorem keyF_of {κ : Type} {P : Program} {kt : TypeId} {d : TypeDesc} {kv : κ → Value} (hu : P.underlying kt = some d) (h : ∀ a b, Instr.sameNow d (kv a) (kv b) = some (dec (a = b))) (hc : ∀ empty a w, (Instr.checkKey empty 10000 kt (kv a)).run P w = .ok () w) (hs : ∀ a, Instr.sameBits 10000 (kv a) (kv a) = true) : KeyF P kt kv :=
  ⟨fun vv a w es L he => by
    have hu' : (underlying kt).run P w = .ok d w := by simp [underlying, program, Sem.run, hu]
    simp only [Instr.findKey, Sem.run_bind, hu', Result.andThen_ok, findNow_of h a es L 0 he]
    rfl, hc, hs⟩
theorem keyF_int {P : Program} {kt : TypeId} {k : IntKind} (hu : P.underlying kt = some (.int k)) : KeyF P kt (fun n : Int => .int k n) := by
  refine keyF_of hu (fun a b => ?_) (fun em a w => ?_) (fun a => ?_)
  · simp only [Instr.sameNow, if_true]
    rw [dec_decide]; rfl
  · have hu' : (underlying kt).run P w = .ok (.int k) w := by simp [underlying, program, Sem.run, hu]
    rw [show (10000 : Nat) = 9999 + 1 from rfl, Instr.checkKey]
    simp only [Sem.run_bind, hu', Result.andThen_ok]
    rfl
  · simp [Instr.sameBits]
/-- A value anew. -/
noncomputable def mset {κ ν : Type} (a : κ) (v : ν) : List (κ × ν) → List (κ × ν)
  | [] => []
  | x :: r => bif dec (a = x.1) then (x.1, v) :: r else x :: mset a v r

section rules
variable {P : Program} {N : Nat} {e : Env} {w : World} {Q : Exit → Act → World → Prop} {ops : List Oper} {l : List Oper} {T : Tab} {C : World → Prop}
  {d : Nat} {tt t : TypeId} {ps : String} {af : Array Edge} {g : Option (Nat × Bool)} {x y z : Operand} {ti ei : TI} {κ ν : Type} {kt et : TypeId} {kv : κ → Value} {vv : ν → Value} {L : List (κ × ν)} {a : κ} {v : ν} {r : Nat}
theorem run_lookupF (hT : OkTab P T) (hk : KeyF P kt kv) (ht : tget T t = some ti) (htd : ti.desc = .map kt et) (he : tget T et = some ei) (hM : MapIs kv vv w r L) (b : Bool) :
    (Instr.lookup t (.map (some r)) (kv a) b).run P w = .ok (bif b then .tuple #[((mget a L).map vv).getD ei.zero, .bool (mget a L).isSome] else ((mget a L).map vv).getD ei.zero) w := by
  obtain ⟨es, clock, h1, h2⟩ := hM
  have hu := run_underlying' (hT.at ht) w; rw [htd] at hu
  have hz := run_zeroValue' (hT.at he) w
  have hf := hk.find vv a w es.toList L h2
  have hg : (getObj r).run P w = .ok (.map es clock) w := by simp [getObj, Sem.run, h1]
  have hmg := mfind_get vv a L 0
  simp only [Instr.lookup, Sem.run_bind, hu, Result.andThen_ok, hg, Sem.run_pure, hk.chk, hf]
  cases hm : mfind vv a L 0 with
  | none =>
    rw [hm] at hmg
    cases hg2 : mget a L with
    | none => cases b <;> simp [hz]
    | some q => rw [hg2] at hmg; simp at hmg
  | some q =>
    rw [hm] at hmg
    cases hg2 : mget a L with
    | none => rw [hg2] at hmg; simp at hmg
    | some u =>
      rw [hg2] at hmg
      simp only [Option.map_some, Option.some.injEq] at hmg
      obtain ⟨qi, qv⟩ := q
      simp only at hmg
      subst hmg
      cases b <;> simp
theorem ylookupF [Cls C w] (hT : OkTab P T) (hk : KeyF P kt kv) (hx : ev e x = some (.map (some r))) (hy : ev e y = some (kv a)) (ht : tget T t = some ti) (htd : ti.desc = .map kt et) (he : tget T et = some ei) (hM : MapIs kv vv w r L) (b : Bool) {dd : Option Tmp} :
    YieldsIn P e C ⟨dd, .lookup t x y b, tt, ps, af, g⟩ (bif b then .tuple #[((mget a L).map vv).getD ei.zero, .bool (mget a L).isSome] else ((mget a L).map vv).getD ei.zero) := by
  intro ρ hρ w' hw'
  have hr := run_lookupF (P := P) (a := a) hT hk ht htd he (hM.ext (Cls.keeps (C := C) w' hw')) b
  simp [execOp, hρ _ _ hx, hρ _ _ hy, hr]
theorem WL.lookSomeF {v : ν} (hT : OkTab P T) (hk : KeyF P kt kv) (hg : gate ops e g = some true) (hd : Nat.blt d N = true) (hx : ev e x = some (.map (some r))) (hy : ev e y = some (kv a)) (ht : tget T t = some ti) (htd : ti.desc = .map kt et) (he : tget T et = some ei) (hM : MapIs kv vv w r L) (hm : mget a L = some v)
    (k : WL P N ops.toArray l ((d, .tuple #[vv v, .bool true]) :: e) w Q) : WL P N ops.toArray (⟨some d, .lookup t x y true, tt, ps, af, g⟩ :: l) e w Q :=
  WL.step hg hd (ylookupF (C := Same w) hT hk hx hy ht htd he hM true) (by rw [hm]; exact k)
theorem WL.lookNoneF (hT : OkTab P T) (hk : KeyF P kt kv) (hg : gate ops e g = some true) (hd : Nat.blt d N = true) (hx : ev e x = some (.map (some r))) (hy : ev e y = some (kv a)) (ht : tget T t = some ti) (htd : ti.desc = .map kt et) (he : tget T et = some ei) (hM : MapIs kv vv w r L) (hm : mget a L = none)
    (k : WL P N ops.toArray l ((d, .tuple #[ei.zero, .bool false]) :: e) w Q) : WL P N ops.toArray (⟨some d, .lookup t x y true, tt, ps, af, g⟩ :: l) e w Q :=
  WL.step hg hd (ylookupF (C := Same w) hT hk hx hy ht htd he hM true) (by rw [hm]; exact k)
theorem WL.look1F (hT : OkTab P T) (hk : KeyF P kt kv) (hg : gate ops e g = some true) (hd : Nat.blt d N = true) (hx : ev e x = some (.map (some r))) (hy : ev e y = some (kv a)) (ht : tget T t = some ti) (htd : ti.desc = .map kt et) (he : tget T et = some ei) (hM : MapIs kv vv w r L)
    (k : WL P N ops.toArray l ((d, ((mget a L).map vv).getD ei.zero) :: e) w Q) : WL P N ops.toArray (⟨some d, .lookup t x y false, tt, ps, af, g⟩ :: l) e w Q :=
  WL.step hg hd (ylookupF (C := Same w) hT hk hx hy ht htd he hM false) k
theorem QL.look1F [Cls C w] (hT : OkTab P T) (hk : KeyF P kt kv) (hg : gate ops e g = some true) (hd : Nat.blt d N = true) (hx : ev e x = some (.map (some r))) (hy : ev e y = some (kv a)) (ht : tget T t = some ti) (htd : ti.desc = .map kt et) (he : tget T et = some ei) (hM : MapIs kv vv w r L)
    (k : QL P N C ops.toArray l ((d, ((mget a L).map vv).getD ei.zero) :: e) Q) : QL P N C ops.toArray (⟨some d, .lookup t x y false, tt, ps, af, g⟩ :: l) e Q :=
  QL.step hg hd (ylookupF hT hk hx hy ht htd he hM false) k
theorem mfind_mset {κ ν : Type} {kv : κ → Value} {vv : ν → Value} (a : κ) (v : ν) : ∀ (L : List (κ × ν)) (i j : Nat) (q : Value), mfind vv a L i = some (j, q) → i ≤ j ∧ j - i < L.length ∧ (L.map (fun x => (kv x.1, vv x.2))).modify (j - i) (fun p => (kv a, vv v)) = (mset a v L).map (fun x => (kv x.1, vv x.2)) ∧ (L.map (fun x => kv x.1))[j - i]? = some (kv a)
  | [], i, j, q, h => by cases h
  | x :: r, i, j, q, h => by
    unfold mfind at h
    by_cases hax : a = x.1
    · rw [dec_true hax] at h
      simp only [cond_true, Option.some.injEq, Prod.mk.injEq] at h
      obtain ⟨rfl, _⟩ := h
      refine ⟨Nat.le_refl _, by simp, ?_, by simp [hax]⟩
      rw [Nat.sub_self]
      unfold mset
      rw [dec_true hax]
      simp [hax]
    · rw [dec_false hax] at h
      simp only [cond_false] at h
      obtain ⟨h1, h2, h3, h4⟩ := mfind_mset (kv := kv) a v r (i + 1) j q h
      have e : j - i = (j - (i + 1)) + 1 := by omega
      refine ⟨by omega, by simp only [List.length_cons]; omega, ?_, ?_⟩
      · rw [e]
        unfold mset
        rw [dec_false hax]
        simp only [cond_false, List.map_cons, List.modify_succ_cons]
        rw [h3]
      · rw [e]; simpa using h4
/-- A new key, or a value anew. -/
theorem WL.mapPutF {B : Nat} {w0 : World} (hT : OkTab P T) (hk : KeyF P kt kv) (hg : gate ops e g = some true) (hx : ev e x = some (.map (some r))) (hy : ev e y = some (kv a)) (hz : ev e z = some (vv v)) (ht : tget T t = some ti) (htd : ti.desc = .map kt et) (hM : MapIs kv vv w r L) (hX : Ext w0 w) (hB : w0.heap.size ≤ r)
    (k : ∀ w', MapIs kv vv w' r (match mget a L with | none => L ++ [(a, v)] | some _ => mset a v L) → Ext w0 w' → Upd r (some ⟨r, 0, none⟩) w w' → WL P N ops.toArray l e w' Q) :
    WL P N ops.toArray (⟨none, .mapUpdate t x y z, tt, ps, af, g⟩ :: l) e w Q := by
  obtain ⟨es, clock, h1, h2⟩ := hM
  have hlt := heap_lt h1
  have hmg := mfind_get vv a L 0
  cases hm : mfind vv a L 0 with
  | none =>
    have hnew : mget a L = none := by
      cases hg2 : mget a L with
      | none => rfl
      | some u => rw [hm, hg2] at hmg; simp at hmg
    rw [hnew] at k
    refine WL.effN (w' := fun m => { at' w m with heap := w.heap.setIfInBounds r (.map (es.push { key := kv a, val := vv v, born := clock }) (clock + 1)) }) hg ?_ (fun m => ?_)
    · intro ρ hρ m
      have hu := run_underlying' (hT.at ht) (at' w m); rw [htd] at hu
      have hf := hk.find vv a (at' w m) es.toList L h2
      have hg : (getObj r).run P (at' w m) = .ok (.map es clock) (at' w m) := by simp [getObj, Sem.run, h1]
      rw [hm] at hf
      have hset : (setObj r (.map (es.push { key := kv a, val := vv v, born := clock }) (clock + 1))).run P (at' w m) = .ok () { at' w m with heap := w.heap.setIfInBounds r (.map (es.push { key := kv a, val := vv v, born := clock }) (clock + 1)) } := by simp [setObj, Sem.run, h1]
      have hrun : (Instr.mapUpdate t (.map (some r)) (kv a) (vv v)).run P (at' w m) = .ok () { at' w m with heap := w.heap.setIfInBounds r (.map (es.push { key := kv a, val := vv v, born := clock }) (clock + 1)) } := by
        simp only [Instr.mapUpdate, Sem.run_bind, hu, Result.andThen_ok, hg, hk.chk, hf, hset]
      simp [execOp, hρ _ _ hx, hρ _ _ hy, hρ _ _ hz, hrun]
    · have hU : Upd r (some ⟨r, 0, none⟩) w { at' w m with heap := w.heap.setIfInBounds r (.map (es.push { key := kv a, val := vv v, born := clock }) (clock + 1)) } :=
        ⟨⟨rfl, rfl, rfl, by simp, fun q hq hne => by
          simp only [blk, Option.map_some, ne_eq, Option.some.injEq] at hne
          simp only [Array.getElem?_setIfInBounds]
          rw [if_neg (fun h => hne h.symm)]⟩, fun q hq => by simp only [blk, Option.map_some, Option.some.injEq] at hq; omega⟩
      refine k _ ⟨_, _, by simp [Array.getElem?_setIfInBounds, hlt]; exact ⟨rfl, rfl⟩, ?_⟩ (hU.ext hX hB) hU
      simp [h2]
  | some q =>
    obtain ⟨j, qv⟩ := q
    obtain ⟨u, hu2⟩ : ∃ u, mget a L = some u := by
      cases hg2 : mget a L with
      | none => rw [hm, hg2] at hmg; simp at hmg
      | some u => exact ⟨u, rfl⟩
    rw [hu2] at k
    obtain ⟨m1, m2, m3, m4⟩ := mfind_mset (kv := kv) a v L 0 j qv hm
    rw [Nat.sub_zero] at m2 m3 m4
    have hlen : es.toList.length = L.length := by have := congrArg List.length h2; simpa using this
    have hkey : (((es[j]?).map (·.key)).getD (kv a)) = kv a := by
      have h3 := congrArg (fun l => (l.map Prod.fst)[j]?) h2
      simp only [List.map_map] at h3
      have e1 : (L.map (Prod.fst ∘ fun x => (kv x.1, vv x.2)))[j]? = some (kv a) := m4
      rw [e1] at h3
      rw [List.getElem?_map] at h3
      obtain ⟨en, hen, hek⟩ := Option.map_eq_some_iff.1 h3
      have : es[j]? = some en := by simpa using hen
      rw [this]; exact hek
    refine WL.effN (w' := fun m => { at' w m with heap := w.heap.setIfInBounds r (.map (es.modify j fun e => { e with key := kv a, val := vv v }) clock) }) hg ?_ (fun m => ?_)
    · intro ρ hρ m
      have hu := run_underlying' (hT.at ht) (at' w m); rw [htd] at hu
      have hf := hk.find vv a (at' w m) es.toList L h2
      have hg : (getObj r).run P (at' w m) = .ok (.map es clock) (at' w m) := by simp [getObj, Sem.run, h1]
      rw [hm] at hf
      have hset : (setObj r (.map (es.modify j fun e => { e with key := kv a, val := vv v }) clock)).run P (at' w m) = .ok () { at' w m with heap := w.heap.setIfInBounds r (.map (es.modify j fun e => { e with key := kv a, val := vv v }) clock) } := by simp [setObj, Sem.run, h1]
      have hstay : (Instr.keyThatStays (kv a) (kv a)).run P (at' w m) = .ok (kv a) (at' w m) := by unfold Instr.keyThatStays; rw [hk.same a]; rfl
      have hrun : (Instr.mapUpdate t (.map (some r)) (kv a) (vv v)).run P (at' w m) = .ok () { at' w m with heap := w.heap.setIfInBounds r (.map (es.modify j fun e => { e with key := kv a, val := vv v }) clock) } := by
        simp only [Instr.mapUpdate, Sem.run_bind, hu, Result.andThen_ok, hg, hk.chk, hf, hkey, hstay, hset]
      simp [execOp, hρ _ _ hx, hρ _ _ hy, hρ _ _ hz, hrun]
    · have hU : Upd r (some ⟨r, 0, none⟩) w { at' w m with heap := w.heap.setIfInBounds r (.map (es.modify j fun e => { e with key := kv a, val := vv v }) clock) } :=
        ⟨⟨rfl, rfl, rfl, by simp, fun q hq hne => by
          simp only [blk, Option.map_some, ne_eq, Option.some.injEq] at hne
          simp only [Array.getElem?_setIfInBounds]
          rw [if_neg (fun h => hne h.symm)]⟩, fun q hq => by simp only [blk, Option.map_some, Option.some.injEq] at hq; omega⟩
      refine k _ ⟨_, _, by simp [Array.getElem?_setIfInBounds, hlt]; exact ⟨rfl, rfl⟩, ?_⟩ (hU.ext hX hB) hU
      rw [← m3, ← h2]
      apply List.ext_getElem?
      intro i
      simp only [Array.toList_modify, List.getElem?_map, List.getElem?_modify, Option.map_map]
      by_cases hij : j = i
      · subst hij; simp [Function.comp_def]
      · simp [hij, Function.comp_def]
end rules
end Go.Lt
namespace Go.Lt
open Go.RowKit
set_option linter.unusedVariables false
set_option linter.unusedSimpArgs false

section rules
variable {P : Program} {N : Nat} {e : Env} {w : World} {Q : Exit → Act → World → Prop} {ops : List Oper} {l : List Oper} {T : Tab} {C : World → Prop}
  {d : Nat} {tt t : TypeId} {ps : String} {af : Array Edge} {g : Option (Nat × Bool)} {x y z : Operand} {ti ei : TI} {κ ν : Type} {kt et : TypeId} {kv : κ → Value} {vv : ν → Value} {L : List (κ × ν)} {a : κ} {v : ν} {r : Nat}
/-- A new key, or a value anew. -/
theorem WL.insertF {B : Nat} {w0 : World} (hT : OkTab P T) (hk : KeyF P kt kv) (hg : gate ops e g = some true) (hx : ev e x = some (.map (some r))) (hy : ev e y = some (kv a)) (hz : ev e z = some (vv v)) (ht : tget T t = some ti) (htd : ti.desc = .map kt et) (hM : MapIs kv vv w r L) (hX : Ext w0 w) (hB : w0.heap.size ≤ r)
    (k : ∀ w', MapIs kv vv w' r (match mget a L with | none => L ++ [(a, v)] | some _ => mset a v L) → Ext w0 w' → Upd r (some ⟨r, 0, none⟩) w w' → WL P N ops.toArray l e w' Q) :
    WL P N ops.toArray (⟨none, .insert t x y z, tt, ps, af, g⟩ :: l) e w Q := by
  obtain ⟨es, clock, h1, h2⟩ := hM
  have hlt := heap_lt h1
  have hmg := mfind_get vv a L 0
  cases hm : mfind vv a L 0 with
  | none =>
    have hnew : mget a L = none := by
      cases hg2 : mget a L with
      | none => rfl
      | some u => rw [hm, hg2] at hmg; simp at hmg
    rw [hnew] at k
    refine WL.effN (w' := fun m => { at' w m with heap := w.heap.setIfInBounds r (.map (es.push { key := kv a, val := vv v, born := clock }) (clock + 1)) }) hg ?_ (fun m => ?_)
    · intro ρ hρ m
      have hu := run_underlying' (hT.at ht) (at' w m); rw [htd] at hu
      have hf := hk.find vv a (at' w m) es.toList L h2
      have hg : (getObj r).run P (at' w m) = .ok (.map es clock) (at' w m) := by simp [getObj, Sem.run, h1]
      rw [hm] at hf
      have hset : (setObj r (.map (es.push { key := kv a, val := vv v, born := clock }) (clock + 1))).run P (at' w m) = .ok () { at' w m with heap := w.heap.setIfInBounds r (.map (es.push { key := kv a, val := vv v, born := clock }) (clock + 1)) } := by simp [setObj, Sem.run, h1]
      have hrun : (Instr.mapUpdate t (.map (some r)) (kv a) (vv v)).run P (at' w m) = .ok () { at' w m with heap := w.heap.setIfInBounds r (.map (es.push { key := kv a, val := vv v, born := clock }) (clock + 1)) } := by
        simp only [Instr.mapUpdate, Sem.run_bind, hu, Result.andThen_ok, hg, hk.chk, hf, hset]
      simp [execOp, hρ _ _ hx, hρ _ _ hy, hρ _ _ hz, hrun]
    · have hU : Upd r (some ⟨r, 0, none⟩) w { at' w m with heap := w.heap.setIfInBounds r (.map (es.push { key := kv a, val := vv v, born := clock }) (clock + 1)) } :=
        ⟨⟨rfl, rfl, rfl, by simp, fun q hq hne => by
          simp only [blk, Option.map_some, ne_eq, Option.some.injEq] at hne
          simp only [Array.getElem?_setIfInBounds]
          rw [if_neg (fun h => hne h.symm)]⟩, fun q hq => by simp only [blk, Option.map_some, Option.some.injEq] at hq; omega⟩
      refine k _ ⟨_, _, by simp [Array.getElem?_setIfInBounds, hlt]; exact ⟨rfl, rfl⟩, ?_⟩ (hU.ext hX hB) hU
      simp [h2]
  | some q =>
    obtain ⟨j, qv⟩ := q
    obtain ⟨u, hu2⟩ : ∃ u, mget a L = some u := by
      cases hg2 : mget a L with
      | none => rw [hm, hg2] at hmg; simp at hmg
      | some u => exact ⟨u, rfl⟩
    rw [hu2] at k
    obtain ⟨m1, m2, m3, m4⟩ := mfind_mset (kv := kv) a v L 0 j qv hm
    rw [Nat.sub_zero] at m2 m3 m4
    have hlen : es.toList.length = L.length := by have := congrArg List.length h2; simpa using this
    have hkey : (((es[j]?).map (·.key)).getD (kv a)) = kv a := by
      have h3 := congrArg (fun l => (l.map Prod.fst)[j]?) h2
      simp only [List.map_map] at h3
      have e1 : (L.map (Prod.fst ∘ fun x => (kv x.1, vv x.2)))[j]? = some (kv a) := m4
      rw [e1] at h3
      rw [List.getElem?_map] at h3
      obtain ⟨en, hen, hek⟩ := Option.map_eq_some_iff.1 h3
      have : es[j]? = some en := by simpa using hen
      rw [this]; exact hek
    refine WL.effN (w' := fun m => { at' w m with heap := w.heap.setIfInBounds r (.map (es.modify j fun e => { e with key := kv a, val := vv v }) clock) }) hg ?_ (fun m => ?_)
    · intro ρ hρ m
      have hu := run_underlying' (hT.at ht) (at' w m); rw [htd] at hu
      have hf := hk.find vv a (at' w m) es.toList L h2
      have hg : (getObj r).run P (at' w m) = .ok (.map es clock) (at' w m) := by simp [getObj, Sem.run, h1]
      rw [hm] at hf
      have hset : (setObj r (.map (es.modify j fun e => { e with key := kv a, val := vv v }) clock)).run P (at' w m) = .ok () { at' w m with heap := w.heap.setIfInBounds r (.map (es.modify j fun e => { e with key := kv a, val := vv v }) clock) } := by simp [setObj, Sem.run, h1]
      have hstay : (Instr.keyThatStays (kv a) (kv a)).run P (at' w m) = .ok (kv a) (at' w m) := by unfold Instr.keyThatStays; rw [hk.same a]; rfl
      have hrun : (Instr.mapUpdate t (.map (some r)) (kv a) (vv v)).run P (at' w m) = .ok () { at' w m with heap := w.heap.setIfInBounds r (.map (es.modify j fun e => { e with key := kv a, val := vv v }) clock) } := by
        simp only [Instr.mapUpdate, Sem.run_bind, hu, Result.andThen_ok, hg, hk.chk, hf, hkey, hstay, hset]
      simp [execOp, hρ _ _ hx, hρ _ _ hy, hρ _ _ hz, hrun]
    · have hU : Upd r (some ⟨r, 0, none⟩) w { at' w m with heap := w.heap.setIfInBounds r (.map (es.modify j fun e => { e with key := kv a, val := vv v }) clock) } :=
        ⟨⟨rfl, rfl, rfl, by simp, fun q hq hne => by
          simp only [blk, Option.map_some, ne_eq, Option.some.injEq] at hne
          simp only [Array.getElem?_setIfInBounds]
          rw [if_neg (fun h => hne h.symm)]⟩, fun q hq => by simp only [blk, Option.map_some, Option.some.injEq] at hq; omega⟩
      refine k _ ⟨_, _, by simp [Array.getElem?_setIfInBounds, hlt]; exact ⟨rfl, rfl⟩, ?_⟩ (hU.ext hX hB) hU
      rw [← m3, ← h2]
      apply List.ext_getElem?
      intro i
      simp only [Array.toList_modify, List.getElem?_map, List.getElem?_modify, Option.map_map]
      by_cases hij : j = i
      · subst hij; simp [Function.comp_def]
      · simp [hij, Function.comp_def]

end rules
end Go.Lt
namespace Go.Lt
open Go.RowKit
set_option linter.unusedVariables false
set_option linter.unusedSimpArgs false

/-- What is known of an operation's value; which block is its own. -/
inductive Pr where
  | any : Pr
  | is : Value → Pr
  | ex (F : Value → World → Prop) (b : Value → Option Nat) (keep : ∀ x w w', F x w → Ext w w' → F x w') (lt : ∀ x w k, F x w → b x = some k → k < w.heap.size) : Pr
def Pr.holds : Pr → Value → World → Prop
  | .any, _, _ => True
  | .is v, x, _ => x = v
  | .ex F _ _ _, x, w => F x w
def Pr.bl : Pr → Value → Option Nat
  | .ex _ b _ _, x => b x
  | _, _ => none
theorem Pr.keeps : ∀ {p : Pr} {x : Value} {w w' : World}, p.holds x w → Ext w w' → p.holds x w'
  | .any, _, _, _, _, _ => trivial
  | .is _, _, _, _, h, _ => h
  | .ex _ _ k _, _, _, _, h, hx => k _ _ _ h hx
theorem Pr.lts : ∀ {p : Pr} {x : Value} {w : World} {k : Nat}, p.holds x w → p.bl x = some k → k < w.heap.size
  | .any, _, _, _, _, hb => by cases hb
  | .is _, _, _, _, _, hb => by cases hb
  | .ex _ _ _ l, _, _, _, h, hb => l _ _ _ h hb
def prAt : List Pr → Nat → Pr
  | [], _ => .any
  | p :: _, 0 => p
  | _ :: r, i + 1 => prAt r i

section
variable {P : Program} {N : Nat} {prs : List Pr} {pre : List Oper}

/-- Slots become known, one by one. -/
def need (prs : List Pr) (pre : List Oper) (w : World) (K : Env → List (Option Nat) → Prop) : List Nat → Env → List (Option Nat) → Prop
  | [], E, bs => K E bs
  | j :: r, E, bs =>
    match dstAt pre j with
    | none => need prs pre w K r E bs
    | some d =>
      match prAt prs j with
      | .any => need prs pre w K r E bs
      | .is v => need prs pre w K r ((d, v) :: E) bs
      | .ex F b _ _ => ∀ x, F x w → need prs pre w K r ((d, x) :: E) (b x :: bs)

def valO (pre : List Oper) (a : Act) (j : Nat) : Value :=
  match dstAt pre j with
  | some d => a.tmps.getD d undef
  | none => undef
def bsOf (prs : List Pr) (pre : List Oper) (a : Act) : List Nat → List (Option Nat) → List (Option Nat)
  | [], bs => bs
  | j :: r, bs =>
    match dstAt pre j with
    | none => bsOf prs pre a r bs
    | some d =>
      match prAt prs j with
      | .ex _ b _ _ => bsOf prs pre a r (b (valO pre a j) :: bs)
      | _ => bsOf prs pre a r bs

theorem Fit.cons {e : Env} {a : Act} (h : Fit N e a) {d : Nat} {v : Value} (hd : a.tmps[d]? = some v) : Fit N ((d, v) :: e) a := by
  refine ⟨h.size, h.defers, fun t u hu => ?_⟩
  rw [get_cons] at hu
  by_cases hdt : d = t
  · subst hdt; rw [if_pos rfl] at hu; cases hu; exact hd
  · rw [if_neg hdt] at hu; exact h.slots _ _ hu
theorem get_appE (e1 e2 : Env) (t : Nat) : get (e1 ++ e2) t = (get e1 t).or (get e2 t) := by
  induction e1 with
  | nil => simp [get]
  | cons p r ih =>
    obtain ⟨k, v⟩ := p
    rw [List.cons_append, get_cons, get_cons]
    by_cases hk : k = t
    · rw [if_pos hk, if_pos hk]; rfl
    · rw [if_neg hk, if_neg hk, ih]
/-- All slots of a frame. -/
def slotsE (a : Act) : Nat → Env
  | 0 => []
  | n + 1 => (n, a.tmps.getD n undef) :: slotsE a n
theorem slotsE_get {a : Act} : ∀ {n t : Nat}, t < n → get (slotsE a n) t = some (a.tmps.getD t undef)
  | n + 1, t, h => by
    rw [slotsE, get_cons]
    by_cases hk : n = t
    · subst hk; rw [if_pos rfl]
    · rw [if_neg hk]; exact slotsE_get (by omega)
theorem slotsE_lt {a : Act} : ∀ {n t : Nat} {v : Value}, get (slotsE a n) t = some v → t < n
  | 0, t, v, h => by cases h
  | n + 1, t, v, h => by
    rw [slotsE, get_cons] at h
    by_cases hk : n = t
    · omega
    · rw [if_neg hk] at h; have := slotsE_lt h; omega
theorem getD_some {a : Act} {t : Nat} (h : t < a.tmps.size) : a.tmps[t]? = some (a.tmps.getD t undef) := by
  simp [Array.getD_eq_getD_getElem?, h]
theorem Fit.all {e : Env} {a : Act} (h : Fit N e a) : Fit N (e ++ slotsE a N) a := by
  refine ⟨h.size, h.defers, fun t u hu => ?_⟩
  rw [get_appE] at hu
  cases hg : get e t with
  | some x => rw [hg] at hu; simp at hu; subst hu; exact h.slots _ _ hg
  | none =>
    rw [hg] at hu
    simp at hu
    have hlt := slotsE_lt hu
    rw [slotsE_get hlt] at hu
    cases hu
    exact getD_some (by rw [h.size]; exact hlt)

theorem need_out {w : World} {K : Env → List (Option Nat) → Prop} {a : Act} (hN : ∀ j d, dstAt pre j = some d → d < N) : ∀ (ds : List Nat) (E : Env) (bs : List (Option Nat)), need prs pre w K ds E bs → Fit N E a → (∀ j ∈ ds, (prAt prs j).holds (valO pre a j) w) →
    ∃ E', K E' (bsOf prs pre a ds bs) ∧ Fit N E' a ∧ ∀ t, get E t ≠ none → get E' t ≠ none
  | [], E, bs, h, hf, _ => ⟨E, h, hf, fun t ht => ht⟩
  | j :: r, E, bs, h, hf, hh => by
    have hr : ∀ k ∈ r, (prAt prs k).holds (valO pre a k) w := fun k hk => hh k (by simp [hk])
    unfold need at h
    unfold bsOf
    cases hd : dstAt pre j with
    | none => rw [hd] at h; exact need_out hN r E bs h hf hr
    | some d =>
      rw [hd] at h
      have hv : valO pre a j = a.tmps.getD d undef := by unfold valO; rw [hd]
      have hs : a.tmps[d]? = some (a.tmps.getD d undef) := getD_some (by rw [hf.size]; exact hN j d hd)
      have hj := hh j (by simp)
      cases hp : prAt prs j with
      | any => rw [hp] at h; exact need_out hN r E bs h hf hr
      | is v =>
        rw [hp] at h hj
        have hj' : valO pre a j = v := hj
        have hf' : Fit N ((d, v) :: E) a := hf.cons (by rw [hs, ← hv, hj'])
        obtain ⟨E', k1, k2, k3⟩ := need_out hN r _ bs h hf' hr
        refine ⟨E', k1, k2, fun t ht => k3 t ?_⟩
        rw [get_cons]; split
        · simp
        · exact ht
      | ex F b kp lt =>
        rw [hp] at h hj
        have hf' : Fit N ((d, valO pre a j) :: E) a := hf.cons (by rw [hs, ← hv])
        obtain ⟨E', k1, k2, k3⟩ := need_out hN r _ _ (h _ hj) hf' hr
        refine ⟨E', k1, k2, fun t ht => k3 t ?_⟩
        rw [get_cons]; split
        · simp
        · exact ht

abbrev Apart (bs : List (Option Nat)) : Prop := bs.Pairwise fun x y => x = none ∨ x ≠ y
theorem bsOf_apart {a : Act} : ∀ (ds : List Nat) (bs : List (Option Nat)), ds.Nodup → Apart bs → (∀ i ∈ ds, ∀ b ∈ bs, (prAt prs i).bl (valO pre a i) = none ∨ (prAt prs i).bl (valO pre a i) ≠ b) →
    (∀ i ∈ ds, ∀ j ∈ ds, i ≠ j → (prAt prs i).bl (valO pre a i) = none ∨ (prAt prs i).bl (valO pre a i) ≠ (prAt prs j).bl (valO pre a j)) → Apart (bsOf prs pre a ds bs)
  | [], bs, _, h, _, _ => h
  | j :: r, bs, hn, h, h1, h2 => by
    have hn' := List.nodup_cons.1 hn
    have e1 : ∀ i ∈ r, ∀ b ∈ bs, (prAt prs i).bl (valO pre a i) = none ∨ (prAt prs i).bl (valO pre a i) ≠ b := fun i hi => h1 i (by simp [hi])
    have e2 : ∀ i ∈ r, ∀ k ∈ r, i ≠ k → (prAt prs i).bl (valO pre a i) = none ∨ (prAt prs i).bl (valO pre a i) ≠ (prAt prs k).bl (valO pre a k) := fun i hi k hk => h2 i (by simp [hi]) k (by simp [hk])
    unfold bsOf
    cases hd : dstAt pre j with
    | none => exact bsOf_apart r bs hn'.2 h e1 e2
    | some d =>
      cases hp : prAt prs j with
      | any => exact bsOf_apart r bs hn'.2 h e1 e2
      | is v => exact bsOf_apart r bs hn'.2 h e1 e2
      | ex F b kp lt =>
        have hb : (prAt prs j).bl (valO pre a j) = b (valO pre a j) := by rw [hp]; rfl
        refine bsOf_apart r _ hn'.2 (List.pairwise_cons.2 ⟨fun y hy => ?_, h⟩) (fun i hi y hy => ?_) e2
        · rw [← hb]; exact h1 j (by simp) y hy
        · rcases List.mem_cons.1 hy with rfl | hy
          · rw [← hb]; exact h2 i (by simp [hi]) j (by simp) (fun he => hn'.1 (he ▸ hi))
          · exact e1 i hi y hy

def postI (N d : Nat) (p : Pr) (w : World) (E : Env) : Exit → Act → World → Prop := onlyN fun a w' => ∃ v, Fit N ((d, v) :: E) a ∧ Ext w w' ∧ p.holds v w' ∧ ∀ k, p.bl v = some k → w.heap.size ≤ k
structure NO (P : Program) (N : Nat) (pre : List Oper) (prs : List Pr) (o : Oper) (d : Nat) (p : Pr) (w : World) (ds : List Nat) (E : Env) : Prop where
  go : ∀ bs, need prs pre w (fun E' _ => WL P N pre.toArray [o] E' w (postI N d p w E')) ds E bs
def depsOf (o : Oper) : List Nat := o.after.toList.filterMap fun e => if Region.binds .any e then some e.on else none
structure OBL (P : Program) (N : Nat) (pre : List Oper) (prs : List Pr) (e : Env) (w : World) (i : Nat) (l : List Oper) : Prop where
  go : ∀ (k : Nat) (o : Oper), l[k]? = some o → ∃ d, o.dst = some d ∧ d < N ∧ ∀ w', Ext w w' → ∀ rest, NO P N pre prs o d (prAt prs (i + k)) w' (depsOf o) (e ++ rest)
theorem OBL.nil {e : Env} {w : World} {i : Nat} : OBL P N pre prs e w i [] := ⟨fun k o h => by simp at h⟩
theorem OBL.cons {e : Env} {w : World} {i d : Nat} {o : Oper} {r : List Oper} {p : Pr} {ds : List Nat} (hd : o.dst = some d) (hN : Nat.blt d N = true) (hp : prAt prs i = p) (hds : depsOf o = ds)
    (h : ∀ w', Ext w w' → ∀ rest, NO P N pre prs o d p w' ds (e ++ rest)) (k : OBL P N pre prs e w (i + 1) r) : OBL P N pre prs e w i (o :: r) := by
  refine ⟨fun j o' hj => ?_⟩
  cases j with
  | zero => simp at hj; subst hj; exact ⟨d, hd, by simpa [Nat.blt_eq] using hN, by rw [Nat.add_zero, hp, hds]; exact h⟩
  | succ j =>
    have := k.go j o' (by simpa using hj)
    rwa [show i + 1 + j = i + (j + 1) by omega] at this
theorem NO.nil {o : Oper} {d : Nat} {p : Pr} {w : World} {E : Env} (h : WL P N pre.toArray [o] E w (postI N d p w E)) : NO P N pre prs o d p w [] E := ⟨fun _ => h⟩
theorem NO.any {o : Oper} {d j : Nat} {p : Pr} {w : World} {E : Env} {r : List Nat} (hp : prAt prs j = .any) (h : NO P N pre prs o d p w r E) : NO P N pre prs o d p w (j :: r) E := ⟨fun bs => by
  unfold need
  cases dstAt pre j with
  | none => exact h.go bs
  | some d => dsimp only; rw [hp]; exact h.go bs⟩
theorem NO.is {o : Oper} {d dj j : Nat} {p : Pr} {w : World} {E : Env} {v : Value} {r : List Nat} (hd : dstAt pre j = some dj) (hp : prAt prs j = .is v) (h : NO P N pre prs o d p w r ((dj, v) :: E)) : NO P N pre prs o d p w (j :: r) E := ⟨fun bs => by
  unfold need
  rw [hd]; dsimp only; rw [hp]; exact h.go bs⟩
theorem NO.ex {o : Oper} {d dj j : Nat} {p : Pr} {w : World} {E : Env} {F : Value → World → Prop} {b : Value → Option Nat} {kp : ∀ x w w', F x w → Ext w w' → F x w'} {lt : ∀ x w k, F x w → b x = some k → k < w.heap.size} {r : List Nat} (hd : dstAt pre j = some dj) (hp : prAt prs j = .ex F b kp lt)
    (h : ∀ x, F x w → NO P N pre prs o d p w r ((dj, x) :: E)) : NO P N pre prs o d p w (j :: r) E := ⟨fun bs => by
  unfold need
  rw [hd]; dsimp only; rw [hp]; exact fun x hx => (h x hx).go _⟩

def dstsB (e : Env) : List Oper → Bool
  | [] => true
  | o :: r => (match o.dst with
    | some d => (match get e d with | some _ => false | none => true) && r.all (fun q => match q.dst with | some d' => !Nat.beq d d' | none => true)
    | none => false) && dstsB e r
theorem dstsB_spec {e : Env} : ∀ {l : List Oper}, dstsB e l = true → (∀ j d, dstAt l j = some d → get e d = none) ∧ ∀ i j d d', dstAt l i = some d → dstAt l j = some d' → i ≠ j → d ≠ d'
  | [], _ => ⟨fun j d h => (by cases h), fun i j d d' h => (by cases h)⟩
  | o :: r, h => by
    simp only [dstsB, Bool.and_eq_true] at h
    obtain ⟨h1, h2⟩ := h
    obtain ⟨k1, k2⟩ := dstsB_spec h2
    cases hd : o.dst with
    | none => rw [hd] at h1; cases h1
    | some d0 =>
      rw [hd] at h1
      simp only [Bool.and_eq_true] at h1
      have hno : get e d0 = none := by
        cases hg : get e d0 with
        | none => rfl
        | some x => rw [hg] at h1; exact absurd h1.1 (by simp)
      have hall : ∀ j d, dstAt r j = some d → d0 ≠ d := by
        intro j d hj
        rw [← dstAt_eq] at hj
        cases ho : r.toArray[j]? with
        | none => rw [ho] at hj; cases hj
        | some q =>
          rw [ho] at hj
          simp only [Option.bind_some] at hj
          have hq : q ∈ r := by have : r[j]? = some q := by simpa using ho
                                exact List.mem_of_getElem? this
          have := List.all_eq_true.1 h1.2 q hq
          rw [hj] at this
          intro he
          subst he
          simp at this
      refine ⟨fun j d hj => ?_, fun i j d d' hi hj hne => ?_⟩
      · cases j with
        | zero => simp only [dstAt, hd] at hj; cases hj; exact hno
        | succ j => exact k1 j d hj
      · cases i with
        | zero =>
          simp only [dstAt, hd] at hi; cases hi
          cases j with
          | zero => exact absurd rfl hne
          | succ j => exact hall j d' hj
        | succ i =>
          cases j with
          | zero => simp only [dstAt, hd] at hj; cases hj; exact fun he => hall i d hi he.symm
          | succ j => exact k2 i j d d' hi hj (by omega)

structure InvI (N : Nat) (prs : List Pr) (pre : List Oper) (e : Env) (w0 : World) (L : Array Bool) (a : Act) (w : World) : Prop where
  ext : Ext w0 w
  fit : Fit N e a
  holds : ∀ i, i < pre.length → L.getD i false = true → (prAt prs i).holds (valO pre a i) w
  apart : ∀ i j, i < pre.length → j < pre.length → L.getD i false = true → L.getD j false = true → i ≠ j → (prAt prs i).bl (valO pre a i) = none ∨ (prAt prs i).bl (valO pre a i) ≠ (prAt prs j).bl (valO pre a j)

theorem dstAt_of {l : List Oper} {i d : Nat} {o : Oper} (h : l[i]? = some o) (hd : o.dst = some d) : dstAt l i = some d := by
  rw [← dstAt_eq, show l.toArray[i]? = some o by simpa using h]; exact hd

theorem wpAny_inv {e : Env} {w0 : World} {Q' : Exit → Act → World → Prop} (hO : OBL P N pre prs e w0 0 pre) (hlow : lowB pre.toArray pre.length = true) (hd : dstsB e pre = true)
    (hK : ∀ L a w, InvI N prs pre e w0 L a w → (∀ i, i < pre.length → L.getD i false = true) → Q' .normal a w) : ∀ (f : Nat) (L : Array Bool) (a : Act) (w : World), L.size = pre.length → todo L pre.length = f → InvI N prs pre e w0 L a w → wpAny P .any pre.toArray Q' f L a w := by
  obtain ⟨hd1, hd2⟩ := dstsB_spec hd
  have hN : ∀ j d, dstAt pre j = some d → d < N := fun j d hj => by
    rw [← dstAt_eq] at hj
    cases ho : pre.toArray[j]? with
    | none => rw [ho] at hj; cases hj
    | some q =>
      rw [ho] at hj
      simp only [Option.bind_some] at hj
      obtain ⟨d', h1, h2, _⟩ := hO.go j q (by simpa using ho)
      rw [h1] at hj; cases hj; exact h2
  intro f
  induction f with
  | zero =>
    intro L a w hsz ht hI
    refine ⟨?_, hK L a w hI fun i hi => todo_zero ht hi⟩
    rw [List.eq_nil_iff_forall_not_mem]
    intro i hi
    have h1 := (mem_ready.1 hi).1
    by_cases hin : i < pre.length
    · have := todo_zero ht hin
      simp [Array.getD_eq_getD_getElem?, show i < L.size by omega] at h1 this
      rw [this] at h1; cases h1
    · simp [Array.getD_eq_getD_getElem?, Array.getElem?_eq_none (show L.size ≤ i by omega)] at h1
  | succ f ih =>
    intro L a w hsz ht hI
    have hun : ∃ i, i < pre.length ∧ L.getD i false = false ∧ ∀ j, j < i → L.getD j false = true := by
      by_cases hall : ∀ i, i < pre.length → L.getD i false = true
      · exfalso
        have : todo L pre.length = 0 := List.countP_eq_zero.2 (fun i hi => by simp [hall i (List.mem_range.1 hi)])
        omega
      · simp only [Classical.not_forall] at hall
        have hex : ∃ i, i < pre.length ∧ L.getD i false = false := by
          obtain ⟨i, hi, hf⟩ := hall
          exact ⟨i, hi, by simpa using hf⟩
        obtain ⟨i, ⟨hi, hf⟩, hmin⟩ := exists_least (p := fun i => i < pre.length ∧ L.getD i false = false) hex
        refine ⟨i, hi, hf, fun j hj => ?_⟩
        cases hb : L.getD j false with
        | true => rfl
        | false => have := hmin j ⟨by omega, hb⟩; omega
    obtain ⟨i0, hi0, hf0, hmin0⟩ := hun
    have hi0r : i0 ∈ Region.ready .any pre.toArray L := by
      obtain ⟨o, ho, hedge, _⟩ := lowB_spec hlow hi0
      exact mem_ready.2 ⟨getD_in (by omega) hf0, o, ho, fun e he hb => hmin0 _ (hedge e he hb)⟩
    refine ⟨fun h0 => (by rw [h0] at hi0r; cases hi0r), fun i hir => ?_⟩
    obtain ⟨h1, o, ho, hdeps⟩ := mem_ready.1 hir
    have hin : i < pre.length := by have := (Array.getElem?_eq_some_iff.1 ho).1; simpa using this
    have hfi : L.getD i false = false := getD_both h1
    have ho' : pre[i]? = some o := by simpa using ho
    obtain ⟨d, hod, hdN, hno⟩ := hO.go i o ho'
    rw [Nat.zero_add] at hno
    have hdi : dstAt pre i = some d := dstAt_of ho' hod
    obtain ⟨E', k1, k2, k3⟩ := need_out (K := fun E' _ => WL P N pre.toArray [o] E' w (postI N d (prAt prs i) w E')) hN (depsOf o) _ [] ((hno w hI.ext (slotsE a N)).go []) hI.fit.all (fun j hj => by
      obtain ⟨ed, hed, hj'⟩ := List.mem_filterMap.1 hj
      split at hj'
      · rename_i hb
        cases hj'
        have hl := hdeps ed (by simpa using hed) hb
        refine hI.holds _ ?_ hl
        refine Classical.byContradiction fun hge => ?_
        simp [Array.getD_eq_getD_getElem?, Array.getElem?_eq_none (show L.size ≤ ed.on by omega)] at hl
      · cases hj')
    have hfull : ∀ t, t < N → ∃ u, get E' t = some u := fun t ht => by
      have := k3 t (by rw [get_appE, slotsE_get ht]; cases get e t <;> simp)
      cases hg : get E' t with
      | none => exact absurd hg this
      | some u => exact ⟨u, rfl⟩
    refine wpOp_of_list ho (k1.go a w.drawn k2) _ fun a' w' h' => ?_
    have h'' : ∃ v, Fit N ((d, v) :: E') a' ∧ Ext w w' ∧ (prAt prs i).holds v w' ∧ ∀ k, (prAt prs i).bl v = some k → w.heap.size ≤ k := h'
    obtain ⟨v, g1, g2, g3, g4⟩ := h''
    have same : ∀ t, t ≠ d → t < N → a'.tmps[t]? = a.tmps[t]? := fun t htd ht => by
      obtain ⟨u, hu⟩ := hfull t ht
      rw [k2.slots t u hu]
      exact g1.slots t u (by rw [get_cons, if_neg (fun h => htd h.symm)]; exact hu)
    have hvi : valO pre a' i = v := by
      unfold valO
      rw [hdi]
      have := g1.slots d v (by rw [get_cons, if_pos rfl])
      simp [Array.getD_eq_getD_getElem?, this]
    have hvj : ∀ j, j ≠ i → valO pre a' j = valO pre a j := fun j hj => by
      unfold valO
      cases hdj : dstAt pre j with
      | none => rfl
      | some d' =>
        have := same d' (hd2 j i d' d hdj hdi hj) (hN j d' hdj)
        simp [Array.getD_eq_getD_getElem?, this]
    have hLi : ∀ j, j ≠ i → (L.setIfInBounds i true).getD j false = L.getD j false := fun j hj => getD_set_ne false (Ne.symm hj)
    refine ih _ a' w' (by simp [hsz]) (by have := todo_set (listed := L) (by omega) hfi pre.length hin; omega) ⟨hI.ext.trans g2, ⟨g1.size, g1.defers, fun t u hu => ?_⟩, fun j hj hl => ?_, fun j k hj hk hlj hlk hjk => ?_⟩
    · have htd : t ≠ d := fun h => by rw [h, hd1 i d hdi] at hu; cases hu
      have hat := hI.fit.slots t u hu
      have htN : t < N := by have := (Array.getElem?_eq_some_iff.1 hat).1; rw [hI.fit.size] at this; exact this
      rw [same t htd htN, hat]
    · by_cases hji : j = i
      · subst hji; rw [hvi]; exact g3
      · rw [hLi j hji] at hl; rw [hvj j hji]; exact Pr.keeps (hI.holds j hj hl) g2
    · by_cases hji : j = i
      · have hki : k ≠ i := fun h => hjk (by rw [hji, h])
        rw [hLi k hki] at hlk
        rw [hji, hvi, hvj k hki]
        cases hb : (prAt prs i).bl v with
        | none => exact .inl rfl
        | some q =>
          refine .inr fun he => ?_
          have h5 := g4 q hb
          have h6 := Pr.lts (hI.holds k hk hlk) he.symm
          omega
      · rw [hLi j hji] at hlj
        rw [hvj j hji]
        by_cases hki : k = i
        · rw [hki, hvi]
          cases hb : (prAt prs j).bl (valO pre a j) with
          | none => exact .inl rfl
          | some q =>
            refine .inr fun he => ?_
            have h5 := g4 q he.symm
            have h6 := Pr.lts (hI.holds j hj hlj) hb
            omega
        · rw [hLi k hki] at hlk
          rw [hvj k hki]
          exact hI.apart j k hj hk hlj hlk hjk

structure NF (P : Program) (N : Nat) (pre : List Oper) (prs : List Pr) (w : World) (K : Env → Prop) (ds : List Nat) (E : Env) (bs : List (Option Nat)) : Prop where
  go : need prs pre w (fun E' bs' => Apart bs' → K E') ds E bs
theorem NF.any {w : World} {K : Env → Prop} {E : Env} {bs : List (Option Nat)} {j : Nat} {r : List Nat} (hp : prAt prs j = .any) (h : NF P N pre prs w K r E bs) : NF P N pre prs w K (j :: r) E bs := ⟨by
  unfold need
  cases dstAt pre j with
  | none => exact h.go
  | some d => dsimp only; rw [hp]; exact h.go⟩
theorem NF.is {w : World} {K : Env → Prop} {E : Env} {bs : List (Option Nat)} {j dj : Nat} {v : Value} {r : List Nat} (hd : dstAt pre j = some dj) (hp : prAt prs j = .is v) (h : NF P N pre prs w K r ((dj, v) :: E) bs) : NF P N pre prs w K (j :: r) E bs := ⟨by
  unfold need
  rw [hd]; dsimp only; rw [hp]; exact h.go⟩
theorem NF.ex {w : World} {K : Env → Prop} {E : Env} {bs : List (Option Nat)} {j dj : Nat} {F : Value → World → Prop} {b : Value → Option Nat} {kp : ∀ x w w', F x w → Ext w w' → F x w'} {lt : ∀ x w k, F x w → b x = some k → k < w.heap.size} {r : List Nat} (hd : dstAt pre j = some dj) (hp : prAt prs j = .ex F b kp lt)
    (h : ∀ x, F x w → NF P N pre prs w K r ((dj, x) :: E) (b x :: bs)) : NF P N pre prs w K (j :: r) E bs := ⟨by
  unfold need
  rw [hd]; dsimp only; rw [hp]; exact fun x hx => (h x hx).go⟩
theorem NF.nilT {l tail : List Oper} {w : World} {Q : Exit → Act → World → Prop} {E : Env} {bs : List (Option Nat)} (h : Apart bs → WL P N l.toArray tail E w Q) : NF P N pre prs w (fun E' => WL P N l.toArray tail E' w Q) [] E bs := ⟨h⟩
def uptoL : Nat → List Nat
  | 0 => []
  | n + 1 => uptoL n ++ [n]
theorem mem_uptoL : ∀ {n i : Nat}, i ∈ uptoL n ↔ i < n
  | 0, i => by simp [uptoL]
  | n + 1, i => by simp only [uptoL, List.mem_append, mem_uptoL, List.mem_singleton]; omega
theorem uptoL_nodup : ∀ n : Nat, (uptoL n).Nodup
  | 0 => by simp [uptoL]
  | n + 1 => by
    simp only [uptoL]
    rw [List.nodup_append]
    exact ⟨uptoL_nodup n, by simp, fun x hx y hy => by have := mem_uptoL.1 hx; simp at hy; omega⟩

theorem inv_done {e : Env} {w0 w : World} {L : Array Bool} {a : Act} {K : Env → Prop} (hN : ∀ j d, dstAt pre j = some d → d < N) (hI : InvI N prs pre e w0 L a w) (hall : ∀ i, i < pre.length → L.getD i false = true) (h : NF P N pre prs w K (uptoL pre.length) e []) : ∃ E', K E' ∧ Fit N E' a := by
  obtain ⟨E', k1, k2, _⟩ := need_out hN _ _ _ h.go hI.fit (fun j hj => hI.holds j (mem_uptoL.1 hj) (hall j (mem_uptoL.1 hj)))
  exact ⟨E', k1 (bsOf_apart _ _ (uptoL_nodup _) List.Pairwise.nil (fun i _ b hb => by cases hb) fun i hi j hj hne => hI.apart i j (mem_uptoL.1 hi) (mem_uptoL.1 hj) (hall i (mem_uptoL.1 hi)) (hall j (mem_uptoL.1 hj)) hne), k2⟩
theorem InvI.start {e : Env} {w0 : World} {a : Act} {m n : Nat} (hf : Fit N e a) : InvI N prs pre e w0 (Array.replicate n false) a (at' w0 m) :=
  ⟨(Ext.refl _).at m, hf, fun i _ h => (by rw [getD_replicate_false] at h; cases h), fun i j _ _ h => (by rw [getD_replicate_false] at h; cases h)⟩
theorem OBL.lt {e : Env} {w0 : World} (hO : OBL P N pre prs e w0 0 pre) : ∀ j d, dstAt pre j = some d → d < N := fun j d hj => by
  rw [← dstAt_eq] at hj
  cases ho : pre.toArray[j]? with
  | none => rw [ho] at hj; cases hj
  | some q =>
    rw [ho] at hj
    simp only [Option.bind_some] at hj
    obtain ⟨d', h1, h2, _⟩ := hO.go j q (by simpa using ho)
    rw [h1] at hj; cases hj; exact h2

theorem todo_start (n m : Nat) : todo (Array.replicate m false) n = n := by
  unfold todo
  rw [List.countP_eq_length.2 (fun i _ => by rw [getD_replicate_false]; rfl)]
  simp

/-- The first n operations so; the others in their order. -/
theorem W.regionI {id : Nat} {l tail : List Oper} {e : Env} {w : World} {Q : Exit → Act → World → Prop} {ds : List Nat} (n : Nat) (prs : List Pr) (hm : P.follows .mixedOrders = true) (hB : Region.lexTailB .any l.toArray n = true) (hc : cutAt n l = some (pre, tail))
    (hlow : lowB l.toArray n = true) (hl : lowB pre.toArray n = true) (hd : dstsB e pre = true) (hds : uptoL n = ds)
    (hO : OBL P N pre prs e w 0 pre) (k : ∀ w', Ext w w' → NF P N pre prs w' (fun E' => WL P N l.toArray tail E' w' Q) ds e []) : W P N (.region id l.toArray true) e w Q := by
  refine ⟨fun a m hf => ?_⟩
  subst hds
  obtain ⟨h1, h2⟩ := cutAt_eq hc
  simp only [Region.lexTailB, Bool.and_eq_true, decide_eq_true_eq] at hB
  obtain ⟨⟨⟨⟨hsel, hn⟩, hs⟩, hcb⟩, hlex⟩ := hB
  have hn' : n < l.length := by simpa using hn
  have hpl : pre.length = n := by rw [← h1]; simp; omega
  have htl : tail.length = l.length - n := by rw [← h2]; simp
  have hH : ∀ j, j < n → pre.toArray[j]? = l.toArray[j]? := fun j hj => by rw [← h1]; simp [hj]
  refine wp_region_any hm ?_
  have hany : wpAny P .any pre.toArray (fun x a' w' => match x with | .normal => wpList P l.toArray Q tail a' w' | _ => False) n (Array.replicate n false) a (at' w (m + 1)) := by
    have := wpAny_inv (P := P) (Q' := fun x a' w' => match x with | .normal => wpList P l.toArray Q tail a' w' | _ => False) hO (by rw [hpl]; exact hl) hd (fun L a w' hI hall => by
      obtain ⟨E', h1, h2⟩ := inv_done hO.lt hI hall (by rw [hpl]; exact k w' hI.ext)
      exact h1.go a w'.drawn h2) n (Array.replicate n false) a (at' w (m + 1)) (by simp [hpl]) (by rw [hpl]; exact todo_start _ _) (InvI.start hf)
    exact this
  have inv0 : HeadInv .any l.toArray n (Array.replicate l.toArray.size false) :=
    ⟨by simp, fun j oj _ hl => (by rw [getD_replicate_false] at hl; cases hl), fun t _ ht => getD_in (by simpa using ht) (getD_replicate_false _ _)⟩
  have key := sim (P := P) (g := l.length - n) (Q := Q) hH (by simpa using hpl) hn hs hcb hlow (fun listed a' w' hsz hfull hrest hk => ?_) (fun x a' w' hx hk => ?_) n (Array.replicate n false) (Array.replicate l.toArray.size false) a (at' w (m + 1)) (by simp) (by simp)
    (fun j hj => by rw [getD_replicate_false, getD_replicate_false]) inv0 (todo_start _ _) hany
  · rw [show n + (l.length - n) = l.toArray.size by simp; omega] at key
    exact key
  · have hseq : Region.seqB .any l.toArray (l.length - n) n listed = true := by
      have : ∀ (f k : Nat) (L : Array Bool), L.size = l.toArray.size → k + f = n → (∀ j, j < k → L.getD j false = true) → (∀ j, k ≤ j → L.getD j false = false) → Region.lexHead .any l.toArray (l.length - n) f k L = true → ∃ L', L'.size = l.toArray.size ∧ (∀ j, j < n → L'.getD j false = true) ∧ (∀ j, n ≤ j → L'.getD j false = false) ∧ Region.seqB .any l.toArray (l.length - n) n L' = true := by
        intro f
        induction f with
        | zero =>
          intro k L h1 h2 h3 h4 h5
          have hkn : k = n := by omega
          rw [hkn] at h3 h4 h5
          exact ⟨L, h1, h3, h4, h5⟩
        | succ f ih =>
          intro k L h1 h2 h3 h4 h5
          simp only [Region.lexHead, Bool.and_eq_true] at h5
          refine ih (k + 1) _ (by simpa using h1) (by omega) (fun j hj => ?_) (fun j hj => ?_) h5.2
          · by_cases hjk : k = j
            · subst hjk
              simp [Array.getD_eq_getD_getElem?, Array.getElem?_setIfInBounds, show k < L.size by rw [h1]; simp; omega]
            · have := h3 j (by omega)
              simpa [Array.getD_eq_getD_getElem?, Array.getElem?_setIfInBounds, hjk] using this
          · have := h4 j (by omega)
            simpa [Array.getD_eq_getD_getElem?, Array.getElem?_setIfInBounds, show k ≠ j by omega] using this
      obtain ⟨L', g1, g2, g3, g4⟩ := this n 0 (Array.replicate l.toArray.size false) (by simp) (by omega) (fun j hj => by omega) (fun j _ => getD_replicate_false _ _) (by simpa using hlex)
      have : listed = L' := by
        apply Array.ext
        · rw [hsz, g1]
        · intro i hi1 hi2
          rcases Nat.lt_or_ge i n with hlt | hge
          · have e1 := hfull i hlt
            have e2 := g2 i hlt
            simp [Array.getD_eq_getD_getElem?, hi1] at e1
            simp [Array.getD_eq_getD_getElem?, hi2] at e2
            rw [e1, e2]
          · have e1 := hrest i hge
            have e2 := g3 i hge
            simp [Array.getD_eq_getD_getElem?, hi1] at e1
            simp [Array.getD_eq_getD_getElem?, hi2] at e2
            rw [e1, e2]
      rw [this]; exact g4
    have := wpAny_of_seq (P := P) (md := .any) (Q' := Q) tail n listed a' w' (fun j => by rw [← h2]; simp [List.getElem?_drop]) (by rw [htl]; exact hseq) hk
    rwa [htl] at this
  · cases x with
    | normal => exact absurd rfl hx
    | _ => exact hk.elim

theorem Z.invIs {d : Nat} {v : Value} {w w' : World} {E : Env} (hx : Ext w w') : Z N (postI N d (.is v) w E) .normal ((d, v) :: E) w' :=
  ⟨fun a m hf => ⟨v, hf, hx.at m, rfl, fun k hk => by cases hk⟩⟩
theorem Z.invEx {d : Nat} {v : Value} {w w' : World} {E : Env} {F : Value → World → Prop} {b : Value → Option Nat} {kp : ∀ x w w', F x w → Ext w w' → F x w'} {lt : ∀ x w k, F x w → b x = some k → k < w.heap.size}
    (hx : Ext w w') (hF : F v w') (hb : ∀ k, b v = some k → w.heap.size ≤ k) : Z N (postI N d (.ex F b kp lt) w E) .normal ((d, v) :: E) w' :=
  ⟨fun a m hf => ⟨v, hf, hx.at m, kp _ _ _ hF ((Ext.refl w').at m), hb⟩⟩
end

/-- An empty slice that is written out. -/
def isLit (el B : Nat) (x : Value) (w : World) : Prop := ∃ gb, x = .slice (some ⟨gb, 0, none⟩) 0 0 ∧ w.heap[gb]? = some (.cells #[] el (0, 0)) ∧ B ≤ gb
def prLit (el B : Nat) : Pr := .ex (isLit el B) (fun _ => none) (fun x w w' ⟨gb, h1, h2, h3⟩ hx => ⟨gb, h1, by rw [hx.block gb (heap_lt h2)]; exact h2, h3⟩) (fun x w k _ h => by cases h)
def sliceBlk : Value → Option Nat
  | .slice a _ _ => blk a
  | _ => none
/-- A row of one's own. -/
def isRow {α : Type} (s : Nat) (enc : α → List Value) (el B : Nat) (l : List α) (x : Value) (w : World) : Prop := ∃ a cap, x = .slice a l.length cap ∧ Own s enc el B w a cap l
open Classical in
noncomputable def prRow {α : Type} (s : Nat) (enc : α → List Value) (el B : Nat) (l : List α) : Pr := .ex (isRow s enc el B l) (fun x => if l = [] then none else sliceBlk x)
  (fun x w w' ⟨a, cap, h1, h2⟩ hx => ⟨a, cap, h1, h2.ext hx⟩) (fun x w k ⟨a, cap, h1, h2⟩ h => by
    subst h1
    by_cases hl : l = []
    · rw [if_pos hl] at h; cases h
    · rw [if_neg hl] at h; exact (h2.blk_lt k h).2)
section
variable {N : Nat}
theorem Z.invLit {d el B gb : Nat} {w w' : World} {E : Env} (hx : Ext w w') (hb : w'.heap[gb]? = some (.cells #[] el (0, 0))) (hge : B ≤ gb) : Z N (postI N d (prLit el B) w E) .normal ((d, .slice (some ⟨gb, 0, none⟩) 0 0) :: E) w' :=
  Z.invEx hx ⟨gb, rfl, hb, hge⟩ (fun k h => by cases h)
theorem Z.invRow {α : Type} {s : Nat} {enc : α → List Value} {d el B cap : Nat} {l : List α} {a : Option Addr} {w w' : World} {E : Env} (hx : Ext w w') (hO : Own s enc el B w' a cap l) (hf : l = [] ∨ ∀ k, blk a = some k → w.heap.size ≤ k) :
    Z N (postI N d (prRow s enc el B l) w E) .normal ((d, .slice a l.length cap) :: E) w' :=
  Z.invEx hx ⟨a, cap, rfl, hO⟩ (fun k h => by
    by_cases hl : l = []
    · rw [if_pos hl] at h; cases h
    · rw [if_neg hl] at h; exact (hf.resolve_left hl) k h)
end

theorem row_cells {α : Type} {s : Nat} {enc : α → List Value} {w : World} {ad : Addr} {ys : List α} (hE : Enc s enc) (hr : Row s enc w (some ad) ys) : ∀ i u, (ys.flatMap enc)[i]? = some u → w.cell? (ad.add i) = some u := by
  intro i u hu
  have hpos := hE.pos
  have hlt : i < ys.length * s := by have := (List.getElem?_eq_some_iff.1 hu).1; rwa [length_flatMap' hE.len] at this
  have hdiv : i / s < ys.length := by rw [Nat.div_lt_iff_lt_mul hpos]; exact hlt
  have hyy : ys[i / s]? = some ys[i / s] := by simp [hdiv]
  obtain ⟨bb, off, hbb, hc⟩ := hr.elem _ _ hyy
  simp only [Option.some.injEq] at hbb
  subst hbb
  have hmod : i % s < s := Nat.mod_lt _ hpos
  have h1 := getElem?_flatMap' hE.len ys (i / s) (i % s) _ hyy hmod
  have h2 : i / s * s + i % s = i := by rw [Nat.mul_comm]; exact Nat.div_add_mod i s
  rw [h2, hu] at h1
  have key : ∀ (L : List Value) (o jj : Nat) (u : Value), Cells w bb o L → L[jj]? = some u → w.cell? ⟨bb, o + jj, none⟩ = some u := by
    intro L
    induction L with
    | nil => intro o jj u _ h; simp at h
    | cons v r ih =>
      intro o jj u hcc h
      cases jj with
      | zero => simp only [List.getElem?_cons_zero, Option.some.injEq] at h; subst h; exact hcc.1
      | succ jj => have := ih (o + 1) jj u hcc.2 (by simpa using h); rwa [show o + 1 + jj = o + (jj + 1) by omega] at this
  have := key _ _ _ u hc h1.symm
  rw [Addr_add_none]
  rw [show off + i / s * s + i % s = off + i by omega] at this
  exact this

section rules
variable {P : Program} {N : Nat} {e : Env} {w : World} {Q : Exit → Act → World → Prop} {ops : List Oper} {l : List Oper} {T : Tab}
  {d : Nat} {tt : TypeId} {ps : String} {af : Array Edge} {g : Option (Nat × Bool)} {t : TypeId} {α : Type} {s : Nat} {enc : α → List Value} {B : Nat} {ti ei : TI} {el : TypeId}
/-- 'append([]T{}, ys...)'. -/
theorem WL.append0 {x y : Operand} {b : Option Addr} {gb m c : Nat} {ys : List α} {wo w1 : World} (hT : OkTab P T) (hE : Enc s enc) (hg : gate ops e g = some true) (hd : Nat.blt d N = true)
    (hx : ev e x = some (.slice (some ⟨gb, 0, none⟩) 0 0)) (hy : ev e y = some (.slice b m c)) (ht : tget T t = some ti) (htd : ti.desc = .slice el) (he : tget T el = some ei) (hs : ei.size = s) (hz : ei.zero.cells.size = s) (hby : Nat.ble ei.bytes 1024 = true)
    (ho : wo.heap[gb]? = some (.cells #[] el (0, 0))) (hB : B ≤ gb) (hwo : Ext wo w) (hr : Row s enc w1 b ys) (hw1 : Ext w1 w) (hm : ys.length = m) (hmc : b = none → c = 0) (hbd : ys.length ≤ 137438953472)
    (k : ∀ a' cap' w', Own s enc el B w' a' cap' ys → Ext w w' → (ys = [] ∨ ∀ k, blk a' = some k → w.heap.size ≤ k) → WL P N ops.toArray l ((d, .slice a' ys.length cap') :: e) w' Q) :
    WL P N ops.toArray (⟨some d, .call ⟨.builtin .append, ⟨[x, y]⟩, ⟨[t, t]⟩⟩, tt, ps, af, g⟩ :: l) e w Q := by
  have hb' := Nat.le_of_ble_eq_true hby
  have hgw : w.heap[gb]? = some (.cells #[] el (0, 0)) := by rw [hwo.block gb (heap_lt ho)]; exact ho
  have hgl := heap_lt hgw
  have hO0 : Own s enc el B w (some ⟨gb, 0, none⟩) 0 ([] : List α) := Own.of_block0 hgw hB
  obtain ⟨j, hj1, hj2, hj3, hj4⟩ := (hT.at he).info
  have hti := (hT.at ht).1
  rw [htd] at hti
  subst hm
  by_cases hy0 : ys = []
  · subst hy0
    refine WL.eff (v := .slice (some ⟨gb, 0, none⟩) 0 0) (w' := fun m => at' w m) hg hd ?_ (fun m => ?_)
    · intro ρ hρ m
      simp only [execOp, resolve, invoke, builtin, Sem.run_bind, Sem.run_pure, Result.andThen_ok, List.map_toArray, List.map_cons, List.map_nil, hρ _ _ hx, hρ _ _ hy]
      by_cases hb : b = none
      · subst hb
        obtain rfl := hmc rfl
        have := run_append_nothing (P := P) (tt := tt) (n := 0) hT ht htd he (w' := at' w m) (xs := ([] : List α)) hO0 hs
        simp only [List.length_nil] at this ⊢
        rw [this]; rfl
      · obtain ⟨ad, rfl⟩ := Option.ne_none_iff_exists'.1 hb
        have := run_append_room (P := P) (at' w m) t tt el j hti hj1 gb 0 0 #[] hgw ad 0 c [] (by simp) (fun q u hq => by simp at hq) (fun u hu => by cases hu) (by omega) (by simp)
        simp only [List.length_nil] at this ⊢
        rw [this]
        have hset : (at' w m).setRow gb #[] = at' w m := by
          have key : ∀ (u : World) (h : Array Obj), h = u.heap → { u with heap := h } = u := fun u h e => by subst e; rfl
          unfold World.setRow
          refine key (at' w m) _ ?_
          apply Array.ext
          · simp
          · intro i h1 h2
            rw [Array.getElem_modify]
            split
            · rename_i hi
              subst hi
              have : (at' w m).heap[gb]? = some (.cells #[] el (0, 0)) := hgw
              rw [Array.getElem?_eq_getElem h2] at this
              simp only [Option.some.injEq] at this
              rw [this]
            · rfl
        simp [hset]
    · have hX : Ext w (at' w m) := (Ext.refl w).at m
      exact k (some ⟨gb, 0, none⟩) 0 (at' w m) (hO0.ext hX) hX (.inl rfl)
  · have hb : b ≠ none := by
      intro h
      subst h
      cases ys with
      | nil => exact hy0 rfl
      | cons z r => obtain ⟨b', off, h1, _⟩ := hr.elem 0 z rfl; cases h1
    have hpos : 0 < ys.length := by cases ys with | nil => exact absurd rfl hy0 | cons z r => simp
    have hbytes : (0 + ys.length) * ei.bytes ≤ 140737488355328 := by
      rw [Nat.zero_add]
      calc ys.length * ei.bytes ≤ 137438953472 * 1024 := Nat.mul_le_mul hbd hb'
        _ ≤ _ := by decide
    obtain ⟨ad, rfl⟩ := Option.ne_none_iff_exists'.1 hb
    have hnews : ∀ (q : Nat) i u, (ys.flatMap enc)[i]? = some u → (at' w q).cell? (ad.add i) = some u := fun q i u hu => row_cells hE (hr.ext hw1) i u hu
    have hone : ∀ u ∈ ys.flatMap enc, u.oneCell' = true := fun u hu => by
      obtain ⟨z, _, hz'⟩ := List.mem_flatMap.1 hu
      exact hE.one z u hz'
    have hlY : (ys.flatMap enc).length = ys.length * j.size := by rw [length_flatMap' hE.len, hj2.trans hs]
    have hfit := growslice_fits (need := 0 + ys.length) (old := 0) (bytes := j.bytes) (by omega) (by rw [hj3]; exact hbytes)
    have hgr : ∀ q, (Builtin.append_ #[t, t] tt #[.slice (some ⟨gb, 0, none⟩) 0 0, .slice (some ad) ys.length c]).run P (at' w q) = .ok (.slice (some ⟨w.heap.size, 0, none⟩) (0 + ys.length) (grownCap (at' w q) (0 + ys.length) 0 el)) ((at' w q).drew.alloc (.cells (([] : List Value).toArray ++ (ys.flatMap enc).toArray ++ Builtin.zeroCells ei.zero.cells (grownCap (at' w q) (0 + ys.length) 0 el - (0 + ys.length))) el)) := fun q =>
      run_append_grow (P := P) (at' w q) t tt el j ei.zero hti hj1 hj4 ⟨gb, 0, none⟩ 0 0 [] (by simp) (fun i u h => by simp at h) ad ys.length c (ys.flatMap enc) hlY (hnews q) (by omega) (by simp only [Nat.zero_add]; omega) hfit
    refine ⟨fun ac q hf => ?_⟩
    unfold wpList
    rw [if_pos (by rw [gate_wanted hf (o := ⟨some d, .call ⟨.builtin .append, ⟨[x, y]⟩, ⟨[t, t]⟩⟩, tt, ps, af, g⟩) hg])]
    refine .inl ?_
    obtain ⟨v', w', hrun, h2, _, _⟩ := run_append_own (P := P) (at' w q) B t tt el j ei.zero s ei.bytes hti hj1 hj4 (hj2.trans hs) hj3 hz hE.pos (.slice (some ⟨gb, 0, none⟩) 0 0) 0 [] hO0 ad ys.length c (ys.flatMap enc)
      (by rw [length_flatMap' hE.len]) (hnews q) hone (by simp only [maxLen]; omega) hbytes (by show B ≤ w.heap.size; omega)
    have hg' := hgr q
    rw [hg'] at hrun
    simp only [Result.ok.injEq] at hrun
    obtain ⟨hv, hw⟩ := hrun
    have hexec : (execOp ac.eval ⟨some d, .call ⟨.builtin .append, ⟨[x, y]⟩, ⟨[t, t]⟩⟩, tt, ps, af, g⟩).run P (at' w q) = .ok (.value v') w' := by
      simp only [execOp, resolve, invoke, builtin, Sem.run_bind, Sem.run_pure, Result.andThen_ok, List.map_toArray, List.map_cons, List.map_nil, hf.eval hx, hf.eval hy, hg', hv, hw]
    unfold Oper.wp
    rw [hexec]
    have hX : Ext w w' := by rw [← hw]; exact ⟨rfl, rfl, rfl, by simp, fun k hk => heap_alloc_old (at' w q).drew _ hk⟩
    have hO : Own s enc el B w' (some ⟨w.heap.size, 0, none⟩) (grownCap (at' w q) (0 + ys.length) 0 el) ys := by
      rw [← hv] at h2
      simp only [List.nil_append, Nat.zero_add] at h2 ⊢
      exact h2
    subst hv
    have := (k _ _ w' hO hX (.inr fun k hk => by simp only [blk, Option.map_some, Option.some.injEq] at hk; omega)).go _ w'.drawn (hf.put (by simpa [Nat.blt_eq] using hd) _)
    simp only [Nat.zero_add] at this ⊢
    exact this
end rules

open Classical in
/-- A row of one's own; if it is empty, nothing is said of it. -/
noncomputable def prowZ {α : Type} (s : Nat) (enc : α → List Value) (el B : Nat) (a : Option Addr) (cap : Nat) (l : List α) : Piece :=
  ⟨if l = [] then none else blk a, fun w => l ≠ [] → Own s enc el B w a cap l, fun {w w'} h hb hl => (h hl).keep fun k hk => hb k (by rw [if_neg hl]; exact hk)⟩
theorem prowZ_b {α : Type} {s : Nat} {enc : α → List Value} {el B cap : Nat} {a : Option Addr} {l : List α} (hl : l ≠ []) : (prowZ s enc el B a cap l).b = blk a := if_neg hl
theorem Sep.rowZ {α : Type} {s : Nat} {enc : α → List Value} {el B cap i : Nat} {a : Option Addr} {l : List α} {w : World} {ps : List Piece} (hS : Sep B w ps) (h : ps[i]? = some (prowZ s enc el B a cap l)) (hl : l ≠ []) : Own s enc el B w a cap l := (hS.holds i _ h).1 hl
theorem Sep.news {B : Nat} {w w' : World} {ps : List Piece} (qs : List Piece) (hS : Sep B w ps) (hx : Ext w w') (hp : ∀ q ∈ qs, q.P w' ∧ ∀ k, q.b = some k → w.heap.size ≤ k ∧ k < w'.heap.size) (ha : Apart (qs.map (·.b))) (hB : B ≤ w.heap.size) : Sep B w' (qs ++ ps) := by
  induction qs with
  | nil => exact hS.ext hx
  | cons q r ih =>
    have ha' := List.pairwise_cons.1 (show List.Pairwise _ (q.b :: r.map (·.b)) from ha)
    have ih' := ih (fun p h => hp p (by simp [h])) ha'.2
    obtain ⟨hq1, hq2⟩ := hp q (by simp)
    have key : ∀ (j : Nat) (p : Piece), (r ++ ps)[j]? = some p → (q.b = none ∨ q.b ≠ p.b) ∧ (p.b = none ∨ p.b ≠ q.b) := by
      intro j p hj
      have base : q.b = none ∨ q.b ≠ p.b := by
        by_cases hlt : j < r.length
        · rw [List.getElem?_append_left hlt] at hj
          exact ha'.1 p.b (List.mem_map.2 ⟨p, List.mem_of_getElem? hj, rfl⟩)
        · rw [List.getElem?_append_right (by omega)] at hj
          cases hb : q.b with
          | none => exact .inl rfl
          | some k =>
            refine .inr fun he => ?_
            have h1 := (hq2 k hb).1
            have h2 := ((hS.holds _ p hj).2 k he.symm).2
            omega
      refine ⟨base, ?_⟩
      rcases base with h | h
      · cases hb : p.b with
        | none => exact .inl rfl
        | some k => exact .inr (by rw [h]; simp)
      · exact .inr (Ne.symm h)
    refine ⟨fun i p h => ?_, fun i j p p' h1 h2 hne => ?_⟩
    · cases i with
      | zero => simp at h; subst h; exact ⟨hq1, fun k hk => ⟨Nat.le_trans hB (hq2 k hk).1, (hq2 k hk).2⟩⟩
      | succ i => exact ih'.holds i p (by simpa using h)
    · cases i with
      | zero =>
        simp at h1; subst h1
        cases j with
        | zero => exact absurd rfl hne
        | succ j => exact (key j p' (by simpa using h2)).1
      | succ i =>
        cases j with
        | zero => simp at h2; subst h2; exact (key i p (by simpa using h1)).2
        | succ j => exact ih'.apart i j p p' (by simpa using h1) (by simpa using h2) (by omega)
theorem prowZ_new {α : Type} {s : Nat} {enc : α → List Value} {el B C cap : Nat} {a : Option Addr} {l : List α} {w : World} (h : Own s enc el B w a cap l) (hB : C ≤ B) : (prowZ s enc el C a cap l).P w ∧ ∀ k, (prowZ s enc el C a cap l).b = some k → B ≤ k ∧ k < w.heap.size := by
  refine ⟨fun _ => h.base hB, fun k hk => ?_⟩
  by_cases hl : l = []
  · have : (prowZ s enc el C a cap l).b = none := if_pos hl
    rw [this] at hk; cases hk
  · rw [prowZ_b hl] at hk; exact h.blk_lt k hk
/-- What is apart stays so where some are left out. -/
theorem apartS {bs cs : List (Option Nat)} (h : Apart bs) (hs : List.Sublist cs bs := by repeat' (first | exact List.Sublist.slnil | apply List.Sublist.cons_cons | apply List.Sublist.cons)) : Apart cs := List.Pairwise.sublist hs h
theorem Sep.takeN {B : Nat} {w : World} {ps : List Piece} (hS : Sep B w ps) (n : Nat) : Sep B w (ps.take n) := by
  have key : ∀ (i : Nat) (p : Piece), (ps.take n)[i]? = some p → ps[i]? = some p := fun i p h => by
    rw [List.getElem?_take] at h; split at h
    · exact h
    · cases h
  exact ⟨fun i p h => hS.holds i p (key i p h), fun i j p q h1 h2 hne => hS.apart i j p q (key i p h1) (key j q h2) hne⟩
end Go.Lt
namespace Go.Lt
open Go.RowKit
set_option linter.unusedVariables false

theorem and1_any (a : Int) : IntKind.i64.wrap (BitVec.ofInt IntKind.i64.bits a &&& BitVec.ofInt IntKind.i64.bits 1).toNat = a % 2 := by
  show IntKind.i64.wrap (BitVec.ofInt 64 a &&& BitVec.ofInt 64 1).toNat = a % 2
  have h1 : (BitVec.ofInt 64 a &&& BitVec.ofInt 64 1).toNat = (BitVec.ofInt 64 a).toNat % 2 := by
    rw [BitVec.toNat_and, show (BitVec.ofInt 64 1).toNat = 1 from rfl, Nat.and_one_is_mod]
  have h2 : ((BitVec.ofInt 64 a).toNat : Int) = a % 18446744073709551616 := by
    rw [BitVec.toNat_ofInt]
    have : (0 : Int) ≤ a % ((2 ^ 64 : Nat) : Int) := Int.emod_nonneg _ (by decide)
    rw [Int.toNat_of_nonneg this]
    rfl
  rw [h1, IntWalk.i64_in _ (by omega)]
  omega
section rules
variable {P : Program} {N : Nat} {e : Env} {w : World} {Q : Exit → Act → World → Prop} {K : Act → World → Prop} {C : World → Prop} {ops : List Oper} {l : List Oper} {Kf : Act → Prop}
  {d : Nat} {tt t ty : TypeId} {ps : String} {af : Array Edge} {g : Option (Nat × Bool)} {x y : Operand} {a : Int}
theorem yandA {dd : Option Tmp} (hx : ev e x = some (.int .i64 a)) (hy : ev e y = some (.int .i64 1)) : Yields P e ⟨dd, .binOp .and t x y ty, tt, ps, af, g⟩ (.int .i64 (a % 2)) := by
  have := Yields.bin (P := P) (d := dd) (op := .and) (t := t) (ty := ty) (tt := tt) (ps := ps) (af := af) (g := g) hx hy (v := .int .i64 (IntKind.i64.wrap (BitVec.ofInt IntKind.i64.bits a &&& BitVec.ofInt IntKind.i64.bits 1).toNat)) rfl
  rwa [and1_any a] at this
theorem WL.andA (hg : gate ops e g = some true) (hd : Nat.blt d N = true) (hx : ev e x = some (.int .i64 a)) (hy : ev e y = some (.int .i64 1)) (k : WL P N ops.toArray l ((d, .int .i64 (a % 2)) :: e) w Q) : WL P N ops.toArray (⟨some d, .binOp .and t x y ty, tt, ps, af, g⟩ :: l) e w Q := WL.step hg hd (yandA hx hy).in k
theorem QL.andA (hg : gate ops e g = some true) (hd : Nat.blt d N = true) (hx : ev e x = some (.int .i64 a)) (hy : ev e y = some (.int .i64 1)) (k : QL P N C ops.toArray l ((d, .int .i64 (a % 2)) :: e) Q) : QL P N C ops.toArray (⟨some d, .binOp .and t x y ty, tt, ps, af, g⟩ :: l) e Q := QL.step hg hd (yandA hx hy).in k
theorem FL.andA (hg : gate ops e g = some true) (hd : Nat.blt d N = true) (hx : ev e x = some (.int .i64 a)) (hy : ev e y = some (.int .i64 1)) (k : FL P N ops.toArray C l ((d, .int .i64 (a % 2)) :: e) w Kf) : FL P N ops.toArray C (⟨some d, .binOp .and t x y ty, tt, ps, af, g⟩ :: l) e w Kf := FL.step hg hd (yandA hx hy).in k
end rules
end Go.Lt
namespace Go.Proofs.Yteidpnpbfagaeaa
open Go Go.Lt Go.RowKit
set_option linter.unusedVariables false
set_option linter.unusedSimpArgs false
set_option maxRecDepth 20000

/-- The types of the map that turns. -/
def Tf7 : Tab := [(97, ⟨.func #[3] #[3] false, 1, 8, .nilFunc⟩), (144, ⟨.map 4 97, 1, 8, .map none⟩)]
theorem tf7Ok : OkTab Try.prog Tf7 := ⟨⟨by kernel_rfl, by kernel_rfl⟩, ⟨by kernel_rfl, by kernel_rfl⟩, trivial⟩
abbrev kvB : Bool → Value := fun b => .bool b
abbrev vvF : Nat → Value := fun f => .func (.func f) #[] #[]
theorem keyB : KeyF Try.prog 4 kvB := by
  refine keyF_of Try.underlying4 (fun a b => ?_) (fun em a w => ?_) (fun a => ?_)
  · simp only [Instr.sameNow]
    rw [dec_decide]; cases a <;> cases b <;> rfl
  · have hu' : (underlying 4).run Try.prog w = .ok .bool w := by simp [underlying, program, Sem.run, Try.underlying4]
    rw [show (10000 : Nat) = 9999 + 1 from rfl, Instr.checkKey]
    simp only [Sem.run_bind, hu', Result.andThen_ok]
    rfl
  · simp [Instr.sameBits]
theorem look1S {P : Program} {N : Nat} {e : Env} {w : World} {Q : Exit → Act → World → Prop} {ops : List Oper} {l : List Oper} {T : Tab} {d : Nat} {tt t : TypeId} {ps : String} {af : Array Edge} {g : Option (Nat × Bool)} {x y : Operand} {ti ei : TI} {κ ν : Type} {kt et : TypeId} {kv : κ → Value} {vv : ν → Value} {L : List (κ × ν)} {a : κ} {v : ν} {r : Nat}
    (hT : OkTab P T) (hk : KeyF P kt kv) (hg : gate ops e g = some true) (hd : Nat.blt d N = true) (hx : ev e x = some (.map (some r))) (hy : ev e y = some (kv a)) (ht : tget T t = some ti) (htd : ti.desc = .map kt et) (he : tget T et = some ei) (hM : MapIs kv vv w r L) (hm : mget a L = some v)
    (k : WL P N ops.toArray l ((d, vv v) :: e) w Q) : WL P N ops.toArray (⟨some d, .lookup t x y false, tt, ps, af, g⟩ :: l) e w Q :=
  WL.look1F hT hk hg hd hx hy ht htd he hM (by rw [hm]; exact k)
abbrev saidL : List (Bool × Nat) := [(true, 156), (false, 157)]
theorem lift_said (w : World) : Lt.Spec Try.prog 115 [] w (fun v w' => Ext w w' ∧ ∃ r, v = .map (some r) ∧ MapIs kvB vvF w' r saidL) := by
  refine Spec.of _ Try.func115 rfl Try.ntmps115 (by kernel_rfl) rfl ?_
  repeat' (first
    | ((apply WL.makeMap (kv := kvB) (vv := vvF); exact rfl; exact rfl; intro rm w1 hM1 hge1 hx1))
    | ((first | (apply WL.insertF (B := 0) (w0 := w) (vv := vvF) (a := true) tf7Ok keyB; (iterate 6 exact rfl); exact hM1; exact (by (exact extA)); exact hge1; intro w2 hM2 hX2 hU2) | (apply WL.insertF (B := 0) (w0 := w) (vv := vvF) (a := false) tf7Ok keyB; (iterate 6 exact rfl); exact hM2; exact (by (exact extA)); exact hge1; intro w3 hM3 hX3 hU3)))
    | (show WL _ _ _ _ _ _ _; first | apply WL.nil | (refine WL.au (k := ?_)))
    | (show Z _ _ _ _ _; apply Z.then_normal)
    | (show W _ _ _ _ _ _; first | apply W.seq | apply W.region | apply W.ret)
    | fail)
  have e2 : mget false ([(true, 156)] : List (Bool × Nat)) = none := by
    show (bif dec (false = true) then _ else _) = _
    rw [dec_false (by simp)]; rfl
  have e1 : mget true ([] : List (Bool × Nat)) = none := rfl
  have hM4 := hM3
  simp only [e1, List.nil_append, e2] at hM4
  exact Z.body1 Try.results115 rfl fun m => ⟨Ext.at hX3 m, rm, rfl, hM4.ext ((Ext.refl _).at m)⟩
theorem said_1 (l : Int) (w : World) : Still Try.prog 156 [.int .i64 l] w (.int .i64 l) := by
  refine Spec.of _ Try.func156 rfl Try.ntmps156 (by kernel_rfl) rfl ?_
  repeat' (first
    | (show WL _ _ _ _ _ _ _; first | apply WL.nil | (refine WL.au (k := ?_)))
    | (show Z _ _ _ _ _; apply Z.then_normal)
    | (show W _ _ _ _ _ _; first | apply W.seq | apply W.region | apply W.ret)
    | fail)
  exact Z.body1 Try.results156 rfl fun m => ⟨rfl, m, rfl⟩
theorem said_2 (l : Int) (w : World) (h : 0 ≤ l ∧ l ≤ 9223372036854775807) : Still Try.prog 157 [.int .i64 l] w (.int .i64 (Lt.xor1 l)) := by
  refine Spec.of _ Try.func157 rfl Try.ntmps157 (by kernel_rfl) rfl ?_
  repeat' (first
    | (apply WL.xorA; (iterate 4 exact rfl); omega)
    | (show WL _ _ _ _ _ _ _; first | apply WL.nil | (refine WL.au (k := ?_)))
    | (show Z _ _ _ _ _; apply Z.then_normal)
    | (show W _ _ _ _ _ _; first | apply W.seq | apply W.region | apply W.ret)
    | fail)
  exact Z.body1 Try.results157 rfl fun m => ⟨rfl, m, rfl⟩
theorem ref34_turned (l : Int) (b : Bool) (w : World) (h : 0 ≤ l ∧ l ≤ 9223372036854775806) : Still Try.prog 121 [.int .i64 l, .bool b] w (.int .i64 (if b = true then Lt.xor1 l else l)) := by
  cases b with
  | true =>
    refine Spec.of _ Try.func121 rfl Try.ntmps121 (by kernel_rfl) rfl ?_
    repeat' (first
      | ((show WL _ _ _ (⟨_, .call ⟨.value (.func 69), _, _⟩, _, _, _, _⟩ :: _) _ _ _); apply WL.callS; (iterate 4 exact rfl); exact rs_Not l _ (by omega))
      | (show WL _ _ _ _ _ _ _; first | apply WL.nil | (refine WL.au (k := ?_)))
      | (show Z _ _ _ _ _; first | apply Z.then_normal | apply Z.then_ret)
      | (show W _ _ _ _ _ _; first | apply W.seq | apply W.region | apply W.ret | (apply W.condT; exact rfl))
      | fail)
    exact Z.body1 Try.results121 rfl fun m => ⟨by unfold notL; rw [if_neg (by omega)]; rfl, m, rfl⟩
  | false =>
    refine Spec.of _ Try.func121 rfl Try.ntmps121 (by kernel_rfl) rfl ?_
    repeat' (first
      | (show WL _ _ _ _ _ _ _; first | apply WL.nil | (refine WL.au (k := ?_)))
      | (show Z _ _ _ _ _; apply Z.then_normal)
      | (show W _ _ _ _ _ _; first | apply W.seq | apply W.region | apply W.skip | apply W.ret | (apply W.condF; exact rfl))
      | fail)
    exact Z.body1 Try.results121 rfl fun m => ⟨rfl, m, rfl⟩
set_option maxHeartbeats 2000000 in
theorem lift_each (a : Option Addr) (cap : Nat) (k : List Int) (w : World) (R : Row 1 encI w a k) (f : FuncId) (us : List Value) (F : Int → Int) (hk : ∀ x ∈ k, 0 ≤ x ∧ x ≤ 9223372036854775807) (hF : ∀ x ∈ k, 0 ≤ F (x / 2) ∧ F (x / 2) ≤ 9223372036854775806) (hl : k.length ≤ 1048576)
    (hcal : ∀ w9, Ext w w9 → ∀ x ∈ k, Still Try.prog f ([.int .i64 (x / 2)] ++ us) w9 (.int .i64 (F (x / 2)))) :
    Lt.Spec Try.prog 60 [.slice a k.length cap, .func (.func f) #[] us.toArray] w (IsFresh 1 encI 3 w (k.map fun x => xorI (F (x / 2)) (x % 2))) := by
  refine Spec.of _ Try.func60 rfl Try.ntmps60 (by kernel_rfl) rfl ?_
  repeat' (first
    | (show WL _ _ _ _ _ _ _; first | apply WL.nil | (refine WL.au (k := ?_)))
    | (show Z _ _ _ _ _; apply Z.then_normal)
    | (show W _ _ _ _ _ _; first | apply W.seq | apply W.region | apply W.block)
    | fail)
  refine W.loopO k.length (fun j b cp w' => j ≤ k.length ∧ Ext w w' ∧ Own 1 encI 3 w.heap.size w' b cp ((k.take j).map fun x => xorI (F (x / 2)) (x % 2)))
    (fun j b cp => [(1, .func (.func f) #[] us.toArray), (5, .slice b ((k.take j).map fun x => xorI (F (x / 2)) (x % 2)).length cp), (8, .slice a k.length cap), (9, .int .i64 (k.length : Nat)), (10, .int .i64 j)]) none 0 ⟨Nat.zero_le _, Ext.refl _, Own.nil⟩ (fun k a cp w' h => h.1) (by repeat' first | exact trivial | (refine And.intro ?_ ?_) | exact rfl) ?_
  rintro j bb cp w1 ⟨hj, hX1, hO1⟩
  have htl : ((k.take j).map fun x => xorI (F (x / 2)) (x % 2)).length = min j k.length := by rw [List.length_map, List.length_take]
  by_cases hlt : j < k.length
  · obtain ⟨x, hx⟩ := getI k hlt
    have hxm := List.mem_of_getElem? hx
    have hx0 := hk x hxm
    have hFx := hF x hxm
    have R1 := R.ext hX1
    have e1 : (k.take (j + 1)).map (fun x => xorI (F (x / 2)) (x % 2)) = (k.take j).map (fun x => xorI (F (x / 2)) (x % 2)) ++ [xorI (F (x / 2)) (x % 2)] := by rw [take_succ' hx, List.map_append]; rfl
    by_cases hp : x % 2 = 0
    · have hmg : mget (dec (x % 2 = 0)) saidL = some 156 := by rw [dec_true hp]; show (bif dec (true = true) then _ else _) = _; rw [dec_true rfl]; rfl
      have e2 : xorI (F (x / 2)) (x % 2) = F (x / 2) := by unfold xorI; rw [if_neg (by omega)]
      rw [e2] at e1
      repeat' (first
        | (apply W.condKT; exact rfl; (focus (exact dec_true (by omega); done)))
        | (apply FL.andA; (iterate 4 exact rfl))
        | (show W _ _ (.region 5 _ _) _ _ _; apply W.regionGX (.fl true 0 (.fl true 2 (.fl true 3 (.fl true 4 (.fl true 6 (.fl true 7 (.fl true 8 (.br 1 (.br 5 (.br 9 (.br 10 (.br 11 (.br 12 (.fl true 13 .done) .stop) .stop) .stop) .stop) (.br 9 (.br 5 (.br 10 (.br 11 (.br 12 (.fl true 13 .done) .stop) .stop) .stop) .stop) .stop)) .stop)))))))) [] tMix; kernel_rfl)
        | (((show WL _ _ _ (⟨_, .call ⟨.value (.func 115), _, _⟩, _, _, _, _⟩ :: _) _ _ _); apply WL.call; (iterate 4 exact rfl); exact lift_said _; rintro v' wS ⟨hxS, rS, rfl, hMS⟩))
        | ((apply look1S (a := dec (x % 2 = 0)) tf7Ok keyB; (iterate 7 exact rfl); exact hMS.ext (by (exact extA)); exact hmg))
        | ((show WL _ _ _ (⟨_, .call ⟨.value (.tmp _), _, _⟩, _, _, _, _⟩ :: _) _ _ _); apply WL.callS; (iterate 4 exact rfl); exact hcal _ (hX1.trans (by (exact extA))) x hxm)
        | ((show WL _ _ _ (⟨_, .call ⟨.value (.tmp _), _, _⟩, _, _, _, _⟩ :: _) _ _ _); apply WL.callS; (iterate 4 exact rfl); exact said_1 _ _)
        | (apply WL.lit tOk; (iterate 6 exact rfl); (first | exact rfl | kernel_rfl | (simp [Instr.fill, catCells]; done)); exact rfl; intro gb w' hb hge hc hx)
        | (apply WL.append1 (z := (F (x / 2))) tOk encI_ok; (iterate 10 exact rfl); assumption; (exact extA); (first | exact rfl | (focus (simp only [List.length_set]; done)) | (focus (simp; done)) | (focus (simp [*]; done)) | omega | (focus (simp only [List.length_set]; omega))); (first | assumption | (refine Cells.ext ?_ (by assumption); exact extA)); exact rfl; exact rfl; (exact extA); (first | omega | (simp; omega) | (simp at *; omega)); intro a' cap' w' hO hX' hU hF)
        | (show SX _ _ _ _ _ _ _ _ _; first | (apply SX.done; intro w' hx) | (apply SX.fl0; exact rfl) | (apply SX.br1; exact rfl; intro w' hx) | (apply SX.br; exact rfl; (intro w' hx)))
        | (show FL _ _ _ _ _ _ _ _; apply FL.nilX)
        | (show FL _ _ _ _ _ _ _ _; (refine FL.au (k := ?_)))
        | (show Z _ _ _ _ _; (apply Z.sxL; exact rfl))
        | (show WL _ _ _ _ _ _ _; first | apply WL.nil | (refine WL.au (k := ?_)) | (apply WL.index tOk; (iterate 8 exact rfl); assumption; (exact extA); exact rfl; omega; assumption; intro b off h; have hcc := h; first | (obtain ⟨h1, h2, h3, h4, h5, h6, _⟩ := h) | (obtain ⟨h1, h2, h3, _⟩ := h) | (obtain ⟨h1, h2, _⟩ := h) | (obtain ⟨h1, _⟩ := h)))
        | (show Z _ _ _ _ _; first | apply Z.then_normal | apply Z.block_normal)
        | (show W _ _ _ _ _ _; first | apply W.seq | apply W.region | apply W.block | apply W.skip)
        | fail)
      all_goals exact Z.againO a' cap' ⟨by omega, hX'.trans (by (exact extA)), by rw [e1]; exact hO.ext (by (exact extA))⟩ (by repeat' first | exact trivial | (refine And.intro ?_ ?_) | exact rfl | (rw [e1]; exact rfl))
    · have hmg : mget (dec (x % 2 = 0)) saidL = some 157 := by
        rw [dec_false hp]
        show (bif dec (false = true) then _ else (bif dec (false = false) then _ else _)) = _
        rw [dec_false (by simp), dec_true rfl]; rfl
      have e2 : xorI (F (x / 2)) (x % 2) = Lt.xor1 (F (x / 2)) := by unfold xorI; rw [if_pos (by omega)]
      rw [e2] at e1
      repeat' (first
        | (apply W.condKT; exact rfl; (focus (exact dec_true (by omega); done)))
        | (apply FL.andA; (iterate 4 exact rfl))
        | (show W _ _ (.region 5 _ _) _ _ _; apply W.regionGX (.fl true 0 (.fl true 2 (.fl true 3 (.fl true 4 (.fl true 6 (.fl true 7 (.fl true 8 (.br 1 (.br 5 (.br 9 (.br 10 (.br 11 (.br 12 (.fl true 13 .done) .stop) .stop) .stop) .stop) (.br 9 (.br 5 (.br 10 (.br 11 (.br 12 (.fl true 13 .done) .stop) .stop) .stop) .stop) .stop)) .stop)))))))) [] tMix; kernel_rfl)
        | (((show WL _ _ _ (⟨_, .call ⟨.value (.func 115), _, _⟩, _, _, _, _⟩ :: _) _ _ _); apply WL.call; (iterate 4 exact rfl); exact lift_said _; rintro v' wS ⟨hxS, rS, rfl, hMS⟩))
        | ((apply look1S (a := dec (x % 2 = 0)) tf7Ok keyB; (iterate 7 exact rfl); exact hMS.ext (by (exact extA)); exact hmg))
        | ((show WL _ _ _ (⟨_, .call ⟨.value (.tmp _), _, _⟩, _, _, _, _⟩ :: _) _ _ _); apply WL.callS; (iterate 4 exact rfl); exact hcal _ (hX1.trans (by (exact extA))) x hxm)
        | ((show WL _ _ _ (⟨_, .call ⟨.value (.tmp _), _, _⟩, _, _, _, _⟩ :: _) _ _ _); apply WL.callS; (iterate 4 exact rfl); exact said_2 _ _ (by omega))
        | (apply WL.lit tOk; (iterate 6 exact rfl); (first | exact rfl | kernel_rfl | (simp [Instr.fill, catCells]; done)); exact rfl; intro gb w' hb hge hc hx)
        | (apply WL.append1 (z := (Lt.xor1 (F (x / 2)))) tOk encI_ok; (iterate 10 exact rfl); assumption; (exact extA); (first | exact rfl | (focus (simp only [List.length_set]; done)) | (focus (simp; done)) | (focus (simp [*]; done)) | omega | (focus (simp only [List.length_set]; omega))); (first | assumption | (refine Cells.ext ?_ (by assumption); exact extA)); exact rfl; exact rfl; (exact extA); (first | omega | (simp; omega) | (simp at *; omega)); intro a' cap' w' hO hX' hU hF)
        | (show SX _ _ _ _ _ _ _ _ _; first | (apply SX.done; intro w' hx) | (apply SX.fl0; exact rfl) | (apply SX.br1; exact rfl; intro w' hx) | (apply SX.br; exact rfl; (intro w' hx)))
        | (show FL _ _ _ _ _ _ _ _; apply FL.nilX)
        | (show FL _ _ _ _ _ _ _ _; (refine FL.au (k := ?_)))
        | (show Z _ _ _ _ _; (apply Z.sxL; exact rfl))
        | (show WL _ _ _ _ _ _ _; first | apply WL.nil | (refine WL.au (k := ?_)) | (apply WL.index tOk; (iterate 8 exact rfl); assumption; (exact extA); exact rfl; omega; assumption; intro b off h; have hcc := h; first | (obtain ⟨h1, h2, h3, h4, h5, h6, _⟩ := h) | (obtain ⟨h1, h2, h3, _⟩ := h) | (obtain ⟨h1, h2, _⟩ := h) | (obtain ⟨h1, _⟩ := h)))
        | (show Z _ _ _ _ _; first | apply Z.then_normal | apply Z.block_normal)
        | (show W _ _ _ _ _ _; first | apply W.seq | apply W.region | apply W.block | apply W.skip)
        | fail)
      all_goals exact Z.againO a' cap' ⟨by omega, hX'.trans (by (exact extA)), by rw [e1]; exact hO.ext (by (exact extA))⟩ (by repeat' first | exact trivial | (refine And.intro ?_ ?_) | exact rfl | (rw [e1]; exact rfl))
  · obtain rfl : j = k.length := by omega
    rw [List.take_length] at hO1
    repeat' (first
      | (apply W.condKF; exact rfl; (focus (exact dec_false (by omega); done)))
      | (show WL _ _ _ _ _ _ _; first | apply WL.nil | (refine WL.au (k := ?_)))
      | (show Z _ _ _ _ _; first | apply Z.then_normal | apply Z.then_exit | apply Z.block_exit)
      | (show W _ _ _ _ _ _; first | apply W.seq | apply W.region | apply W.ret | apply W.exit)
      | fail)
    exact Z.body1 Try.results60 rfl fun m => ⟨Ext.at hX1 m, bb, cp, by rw [List.take_length], hO1⟩
end Go.Proofs.Yteidpnpbfagaeaa
namespace Go.Proofs.Yteidpnpbfagaeaa
open Go Go.Lt Go.RowKit
set_option linter.unusedVariables false
set_option linter.unusedSimpArgs false
set_option maxRecDepth 20000

def latN (c : CirT) (i : Int) : Int := (c.lat.getD i.toNat (0, 0, 0)).2.1
def latH (c : CirT) (i : Int) : Int := (c.lat.getD i.toNat (0, 0, 0)).1
noncomputable def nextL (c : CirT) (k : List Int) : List Int := k.map fun x => xorI (latN c (x / 2)) (x % 2)
noncomputable def hereL (c : CirT) (k : List Int) : List Int := k.map fun x => xorI (latH c (x / 2)) (x % 2)
/-- A cube of a circuit's latches. -/
def OfK (c : CirT) (k : List Int) : Prop := ∀ x ∈ k, 0 ≤ x ∧ x ≤ 9223372036854775807 ∧ (x / 2).toNat < c.lat.length
theorem latN_range {c : CirT} (h : GoodC' c) {i : Int} (hi : i.toNat < c.lat.length) : 0 ≤ latN c i ∧ latN c i ≤ 9223372036854775806 := by
  obtain ⟨x, hx⟩ := getI c.lat hi
  unfold latN; rw [getD_of hx]
  have h1 := h.used _ (used_next (List.mem_of_getElem? hx))
  have := h.max; omega
theorem latH_range {c : CirT} (h : GoodC' c) {i : Int} (hi : i.toNat < c.lat.length) : 0 ≤ latH c i ∧ latH c i ≤ 9223372036854775806 := by
  obtain ⟨x, hx⟩ := getI c.lat hi
  unfold latH; rw [getD_of hx]
  have h1 := h.own x.1 (List.mem_append_left _ (List.mem_append_right _ (List.mem_map.2 ⟨x, List.mem_of_getElem? hx, rfl⟩)))
  have := h.max; omega
theorem lift_Next1 (gc : Nat) (c : Circ) (i : Int) (w : World) (hc : Cells w gc 0 c.vals) (R : Row 3 enc3 w c.lat.1 c.lat.2.2) (hi : 0 ≤ i ∧ i.toNat < c.lat.2.2.length) :
    Still Try.prog 107 [.int .i64 i, .pointer (some ⟨gc, 0, none⟩)] w (.int .i64 (latN c.t i)) := by
  obtain ⟨x, hx⟩ := getI c.lat.2.2 hi.2
  obtain ⟨y0, y1, y2, _⟩ := hc
  have e : latN c.t i = x.2.1 := by unfold latN; rw [getD_of hx]
  rw [e]
  refine Spec.of _ Try.func107 rfl Try.ntmps107 (by kernel_rfl) rfl ?_
  repeat' (first
    | (show WL _ _ _ _ _ _ _; first | apply WL.nil | (refine WL.au (k := ?_)) | (apply WL.index tOk; (iterate 8 exact rfl); assumption; (exact extA); exact rfl; omega; assumption; intro b off h; have hcc := h; first | (obtain ⟨h1, h2, h3, h4, h5, h6, _⟩ := h) | (obtain ⟨h1, h2, h3, _⟩ := h) | (obtain ⟨h1, h2, _⟩ := h) | (obtain ⟨h1, _⟩ := h)))
    | (show Z _ _ _ _ _; apply Z.then_normal)
    | (show W _ _ _ _ _ _; first | apply W.seq | apply W.region | apply W.ret)
    | fail)
  exact Z.body1 Try.results107 rfl fun m => ⟨rfl, m, rfl⟩
theorem lift_Next (c : Circ) (a : Option Addr) (cap : Nat) (k : List Int) (w : World) (hC : CAt w c) (hg : GoodC' c.t) (R : Row 1 encI w a k) (hk : OfK c.t k) (hl : k.length ≤ 1048576) :
    Lt.Spec Try.prog 52 [c.val, .slice a k.length cap] w (IsFresh 1 encI 3 w (nextL c.t k)) := by
  refine Spec.of _ Try.func52 rfl Try.ntmps52 (by kernel_rfl) rfl ?_
  repeat' (first
    | (apply WL.box; (iterate 3 exact rfl); intro gb w' hb hge hc hx; have hcc := hc; (first | (obtain ⟨h1, h2, h3, _⟩ := hc) | (obtain ⟨h1, h2, _⟩ := hc)); (obtain ⟨gc, rfl⟩ : ∃ x, x = gb := ⟨_, rfl⟩; obtain ⟨wc, rfl⟩ : ∃ x, x = w' := ⟨_, rfl⟩; obtain ⟨hxc, rfl⟩ : ∃ x, x = hx := ⟨_, rfl⟩; have hcells : Cells wc gc 0 c.vals := hcc))
    | ((show WL _ _ _ (⟨_, .call ⟨.value (.func 60), _, _⟩, _, _, _, _⟩ :: _) _ _ _); apply WL.call; (iterate 4 exact rfl); exact lift_each a cap k _ (R.ext (by (exact extA))) 107 [.pointer (some ⟨gc, 0, none⟩)] (latN c.t) (fun x hx => ⟨(hk x hx).1, (hk x hx).2.1⟩) (fun x hx => latN_range hg (hk x hx).2.2) hl (fun w9 h9 x hx => lift_Next1 gc c (x / 2) w9 (hcells.ext h9) (hC.lat.row.ext (hxc.trans h9)) ⟨by have := (hk x hx).1; omega, (hk x hx).2.2⟩); rintro v' w' ⟨hx, a', cap', rfl, hO⟩)
    | (show WL _ _ _ _ _ _ _; first | apply WL.nil | (refine WL.au (k := ?_)))
    | (show Z _ _ _ _ _; apply Z.then_normal)
    | (show W _ _ _ _ _ _; first | apply W.seq | apply W.region | apply W.ret)
    | fail)
  exact Z.body1 Try.results52 rfl fun m => ⟨Ext.at (hxc.trans hx) m, a', cap', rfl, hO.base (Below.size hxc)⟩
theorem trn_xor (l x : Int) : (if dec (x % 2 = 1) = true then Lt.xor1 l else l) = xorI l (x % 2) := by
  unfold xorI
  by_cases h : x % 2 = 1
  · rw [dec_true h, if_pos rfl, if_pos h]
  · rw [dec_false h, if_neg (by simp), if_neg h]
theorem ref34_turnedX (l x : Int) (w : World) (h : 0 ≤ l ∧ l ≤ 9223372036854775806) : Still Try.prog 121 [.int .i64 l, .bool (dec (x % 2 = 1))] w (.int .i64 (xorI l (x % 2))) := by
  rw [← trn_xor]; exact ref34_turned l _ w h
theorem blk_fromL {a a' : Option Addr} {b m : Nat} (h : ∀ q, blk a = some q → b ≤ q) (hF : blk a' = blk a ∨ ∃ k, blk a' = some k ∧ m ≤ k) (hm : b ≤ m) : ∀ q, blk a' = some q → b ≤ q := by
  intro q hq
  rcases hF with hF | ⟨k, hk, hle⟩
  · exact h q (by rw [← hF]; exact hq)
  · rw [hk] at hq; cases hq; omega
theorem UpdNot {B : Nat} {a : Option Addr} {w w1 : World} (h : Upd B a w w1) {b : Nat} {l : List Value} {off : Nat} (hc : Cells w b off l) (hne : blk a ≠ some b) : Cells w1 b off l := But.cells (But.upd h) hne hc
set_option maxHeartbeats 2000000 in
theorem ref34_Next (c : Circ) (a : Option Addr) (cap : Nat) (k : List Int) (w : World) (hC : CAt w c) (hg : GoodC' c.t) (R : Row 1 encI w a k) (hk : OfK c.t k) (hl : k.length ≤ 1048576) :
    Lt.Spec Try.prog 67 [c.val, .slice a k.length cap] w (IsFresh 1 encI 3 w (nextL c.t k)) := by
  have RLt := hC.lat.row
  refine Spec.of _ Try.func67 rfl Try.ntmps67 (by kernel_rfl) rfl ?_
  repeat' (first
    | (apply WL.box; (iterate 3 exact rfl); intro gb w' hb hge hc hx; have hcc := hc; (first | (obtain ⟨h1, h2, h3, _⟩ := hc) | (obtain ⟨h1, h2, _⟩ := hc)); (obtain ⟨gc, rfl⟩ : ∃ x, x = gb := ⟨_, rfl⟩; obtain ⟨wc, rfl⟩ : ∃ x, x = w' := ⟨_, rfl⟩; obtain ⟨hxc, rfl⟩ : ∃ x, x = hx := ⟨_, rfl⟩; have hcells : Cells wc gc 0 c.vals := hcc; have hgc := heap_lt hb))
    | (apply WL.lit (len := 0) tOk; (iterate 6 exact rfl); (first | exact rfl | kernel_rfl | (simp [Instr.fill, catCells]; done)); exact rfl; intro gb w' hb hge hc hx; have hO0 := Own.of_block0 (enc := encI) (s := 1) hb hge; (obtain ⟨g5, rfl⟩ : ∃ x, x = gb := ⟨_, rfl⟩; obtain ⟨w5, rfl⟩ : ∃ x, x = w' := ⟨_, rfl⟩; obtain ⟨hx5, rfl⟩ : ∃ x, x = hx := ⟨_, rfl⟩))
    | (show WL _ _ _ _ _ _ _; first | apply WL.nil | (refine WL.au (k := ?_)))
    | (show Z _ _ _ _ _; apply Z.then_normal)
    | (show W _ _ _ _ _ _; first | apply W.seq | apply W.region | apply W.block)
    | fail)
  have hz := Below.size hxc
  have hX5 : Ext w w5 := hxc.trans hx5
  refine W.loopO k.length (fun j b cp w' => j ≤ k.length ∧ Ext w w' ∧ Own 1 encI 3 w.heap.size w' b cp (nextL c.t (k.take j)) ∧ (∀ q, blk b = some q → wc.heap.size ≤ q) ∧ Cells w' gc 0 c.vals ∧ wc.heap.size ≤ w'.heap.size)
    (fun j b cp => [(1, .slice a k.length cap), (2, .pointer (some ⟨gc, 0, none⟩)), (5, .slice b (nextL c.t (k.take j)).length cp), (6, .int .i64 j)]) (some ⟨g5, 0, none⟩) 0 ⟨Nat.zero_le _, hX5, hO0.base hz, fun q hq => by have h1 := Option.some.inj hq; simp only at h1; omega, hcells.ext hx5, Below.size hx5⟩ (fun k a cp w' h => h.1) (by repeat' first | exact trivial | (refine And.intro ?_ ?_) | exact rfl) ?_
  clear hO0
  rintro j bb cp w1 ⟨hj, hX1, hO1, hBC, hcl, hz1⟩
  have htl : (nextL c.t (k.take j)).length = min j k.length := by unfold nextL; rw [List.length_map, List.length_take]
  by_cases hlt : j < k.length
  · obtain ⟨x, hx⟩ := getI k hlt
    have hxm := List.mem_of_getElem? hx
    have hk3 := hk x hxm
    obtain ⟨y, hy⟩ := getI c.lat.2.2 (show (x / 2).toNat < c.lat.2.2.length from hk3.2.2)
    have hr := latN_range hg hk3.2.2
    have ey : latN c.t (x / 2) = y.2.1 := by unfold latN; rw [getD_of hy]
    rw [ey] at hr
    have hx0 := hk3.1
    have hx1 := hk3.2.1
    have e1 : nextL c.t (k.take (j + 1)) = nextL c.t (k.take j) ++ [xorI y.2.1 (x % 2)] := by unfold nextL; rw [take_succ' hx, List.map_append, ← ey]; rfl
    have hcl0 := hcl
    obtain ⟨y0, y1, y2, _⟩ := hcl
    repeat' (first
      | (apply W.condKT; exact rfl; (focus (exact dec_true (by omega); done)))
      | (show W _ _ (.region 5 _ _) _ _ _; apply W.regionGB (.fl true 0 (.fl true 1 (.fl true 3 (.fl true 4 (.fl true 5 (.fl true 11 (.fl true 12 (.fl true 13 (.fl false 2 (.fl false 6 (.fl true 7 (.fl true 8 (.fl true 9 (.fl false 10 (.fl false 14 (.fl true 15 (.fl true 16 (.fl false 17 (.br 18 (.br 19 (.fl true 20 .done) .stop) .stop))))))))))))))))))) [6, 7, 8, 9, 10, 14, 15, 16, 17, 18, 19] (blk bb) tMix; kernel_rfl)
      | (apply SG.flS; exact rfl; (focus ((intro m; first | assumption | (apply Ext.at; (exact extA)) | apply But.of_at; first | exact But.upd (by assumption) | exact But.ext (by (exact extA)) | (refine But.trans ?_ (But.upd (by assumption)); exact But.ext (by (exact extA))) | exact But.at _ _ _); done)); (iterate 4 exact rfl); (focus (intro w9 hw9; exact ref34_turnedX y.2.1 x _ hr)))
      | (apply WL.lit tOk; (iterate 6 exact rfl); (first | exact rfl | kernel_rfl | (simp [Instr.fill, catCells]; done)); exact rfl; intro gb w' hb hge hc hx; (obtain ⟨wL, rfl⟩ : ∃ x, x = w' := ⟨_, rfl⟩; obtain ⟨hxL, rfl⟩ : ∃ x, x = hx := ⟨_, rfl⟩))
      | (apply WL.append1 tOk encI_ok; (iterate 10 exact rfl); assumption; (exact extA); (first | exact rfl | (focus (simp only [List.length_set]; done)) | (focus (simp; done)) | (focus (simp [*]; done)) | omega | (focus (simp only [List.length_set]; omega))); assumption; (first | exact rfl | exact (rfl : encI (_, _) = _)); exact rfl; (exact extA); (first | omega | (simp; omega) | (simp at *; omega)); intro a' cap' w' hO hX' hU hF)
      | (show WL _ _ _ _ _ _ _; first | apply WL.nil | (refine WL.au (k := ?_)))
      | (show SG _ _ _ _ _ _ _ _ _; first | apply SG.done | (apply SG.fl0; exact rfl) | (apply SG.fl1; exact rfl; (focus ((intro m; first | assumption | (apply Ext.at; (exact extA)) | apply But.of_at; first | exact But.upd (by assumption) | exact But.ext (by (exact extA)) | (refine But.trans ?_ (But.upd (by assumption)); exact But.ext (by (exact extA))) | exact But.at _ _ _); done))) | (apply SG.br1; exact rfl))
      | (show FL _ _ _ _ _ _ _ _; first | apply FL.nilS | (refine FL.au (k := ?_)) | (apply FL.loadG tOk; (iterate 5 exact rfl); (first | assumption | (focus (apply Ext.cell; rotate_left; assumption; (exact extA); done))); (first | (focus (intro h; cases h; done)) | (focus (intro h; have h9 := hBC _ h; (try simp only at h9); omega)) | assumption | (focus (intro h; simp only [blk, Option.map_some, Option.some.injEq] at h; omega)))) | (apply FL.index tOk; (iterate 8 exact rfl); assumption; (exact extA); exact rfl; omega; assumption; exact List.cons_ne_nil _ _; intro b off h hbl; have hcc := h; first | (obtain ⟨h1, h2, h3, h4, h5, h6, _⟩ := h) | (obtain ⟨h1, h2, h3, _⟩ := h) | (obtain ⟨h1, h2, _⟩ := h) | (obtain ⟨h1, _⟩ := h)))
      | (show Z _ _ _ _ _; (apply Z.sgE; (focus ((intro m; first | assumption | (apply Ext.at; (exact extA)) | apply But.of_at; first | exact But.upd (by assumption) | exact But.ext (by (exact extA)) | (refine But.trans ?_ (But.upd (by assumption)); exact But.ext (by (exact extA))) | exact But.at _ _ _); done))))
      | (show Z _ _ _ _ _; first | apply Z.then_normal | apply Z.block_normal)
      | (show W _ _ _ _ _ _; first | apply W.seq | apply W.region | apply W.block | apply W.skip)
      | fail)
    have hzL := Below.size hxL
    exact Z.againO a' cap' ⟨by omega, hX', by rw [e1]; exact hO, blk_fromL hBC hF (Nat.le_trans hz1 hzL), UpdNot hU (hcl0.ext hxL) (fun he => by have := hBC gc he; omega), by have := hU.size; omega⟩ (by repeat' first | exact trivial | (refine And.intro ?_ ?_) | exact rfl | (rw [e1]; exact rfl))
  · obtain rfl : j = k.length := by omega
    rw [List.take_length] at hO1
    repeat' (first
      | (apply W.condKF; exact rfl; (focus (exact dec_false (by omega); done)))
      | (show WL _ _ _ _ _ _ _; first | apply WL.nil | (refine WL.au (k := ?_)))
      | (show Z _ _ _ _ _; first | apply Z.then_normal | apply Z.then_exit | apply Z.block_exit)
      | (show W _ _ _ _ _ _; first | apply W.seq | apply W.region | apply W.ret | apply W.exit)
      | fail)
    exact Z.body1 Try.results67 rfl fun m => ⟨Ext.at hX1 m, bb, cp, by rw [List.take_length], hO1⟩
set_option maxHeartbeats 2000000 in
theorem ref34_here (c : Circ) (a : Option Addr) (cap : Nat) (k : List Int) (w : World) (hC : CAt w c) (hg : GoodC' c.t) (R : Row 1 encI w a k) (hk : OfK c.t k) (hl : k.length ≤ 1048576) :
    Lt.Spec Try.prog 70 [c.val, .slice a k.length cap] w (IsFresh 1 encI 3 w (hereL c.t k)) := by
  have RLt := hC.lat.row
  refine Spec.of _ Try.func70 rfl Try.ntmps70 (by kernel_rfl) rfl ?_
  repeat' (first
    | (apply WL.box; (iterate 3 exact rfl); intro gb w' hb hge hc hx; have hcc := hc; (first | (obtain ⟨h1, h2, h3, _⟩ := hc) | (obtain ⟨h1, h2, _⟩ := hc)); (obtain ⟨gc, rfl⟩ : ∃ x, x = gb := ⟨_, rfl⟩; obtain ⟨wc, rfl⟩ : ∃ x, x = w' := ⟨_, rfl⟩; obtain ⟨hxc, rfl⟩ : ∃ x, x = hx := ⟨_, rfl⟩; have hcells : Cells wc gc 0 c.vals := hcc; have hgc := heap_lt hb))
    | (apply WL.lit (len := 0) tOk; (iterate 6 exact rfl); (first | exact rfl | kernel_rfl | (simp [Instr.fill, catCells]; done)); exact rfl; intro gb w' hb hge hc hx; have hO0 := Own.of_block0 (enc := encI) (s := 1) hb hge; (obtain ⟨g5, rfl⟩ : ∃ x, x = gb := ⟨_, rfl⟩; obtain ⟨w5, rfl⟩ : ∃ x, x = w' := ⟨_, rfl⟩; obtain ⟨hx5, rfl⟩ : ∃ x, x = hx := ⟨_, rfl⟩))
    | (show WL _ _ _ _ _ _ _; first | apply WL.nil | (refine WL.au (k := ?_)))
    | (show Z _ _ _ _ _; apply Z.then_normal)
    | (show W _ _ _ _ _ _; first | apply W.seq | apply W.region | apply W.block)
    | fail)
  have hz := Below.size hxc
  have hX5 : Ext w w5 := hxc.trans hx5
  refine W.loopO k.length (fun j b cp w' => j ≤ k.length ∧ Ext w w' ∧ Own 1 encI 3 w.heap.size w' b cp (hereL c.t (k.take j)) ∧ (∀ q, blk b = some q → wc.heap.size ≤ q) ∧ Cells w' gc 0 c.vals ∧ wc.heap.size ≤ w'.heap.size)
    (fun j b cp => [(1, .slice a k.length cap), (2, .pointer (some ⟨gc, 0, none⟩)), (5, .slice b (hereL c.t (k.take j)).length cp), (6, .int .i64 j)]) (some ⟨g5, 0, none⟩) 0 ⟨Nat.zero_le _, hX5, hO0.base hz, fun q hq => by have h1 := Option.some.inj hq; simp only at h1; omega, hcells.ext hx5, Below.size hx5⟩ (fun k a cp w' h => h.1) (by repeat' first | exact trivial | (refine And.intro ?_ ?_) | exact rfl) ?_
  clear hO0
  rintro j bb cp w1 ⟨hj, hX1, hO1, hBC, hcl, hz1⟩
  have htl : (hereL c.t (k.take j)).length = min j k.length := by unfold hereL; rw [List.length_map, List.length_take]
  by_cases hlt : j < k.length
  · obtain ⟨x, hx⟩ := getI k hlt
    have hxm := List.mem_of_getElem? hx
    have hk3 := hk x hxm
    obtain ⟨y, hy⟩ := getI c.lat.2.2 (show (x / 2).toNat < c.lat.2.2.length from hk3.2.2)
    have hr := latH_range hg hk3.2.2
    have ey : latH c.t (x / 2) = y.1 := by unfold latH; rw [getD_of hy]
    rw [ey] at hr
    have hx0 := hk3.1
    have hx1 := hk3.2.1
    have e1 : hereL c.t (k.take (j + 1)) = hereL c.t (k.take j) ++ [xorI y.1 (x % 2)] := by unfold hereL; rw [take_succ' hx, List.map_append, ← ey]; rfl
    have hcl0 := hcl
    obtain ⟨y0, y1, y2, _⟩ := hcl
    repeat' (first
      | (apply W.condKT; exact rfl; (focus (exact dec_true (by omega); done)))
      | (show W _ _ (.region 5 _ _) _ _ _; apply W.regionGB (.fl true 0 (.fl true 1 (.fl true 3 (.fl true 4 (.fl true 5 (.fl true 11 (.fl true 12 (.fl true 13 (.fl false 2 (.fl false 6 (.fl true 7 (.fl true 8 (.fl true 9 (.fl false 10 (.fl false 14 (.fl true 15 (.fl true 16 (.fl false 17 (.br 18 (.br 19 (.fl true 20 .done) .stop) .stop))))))))))))))))))) [6, 7, 8, 9, 10, 14, 15, 16, 17, 18, 19] (blk bb) tMix; kernel_rfl)
      | (apply SG.flS; exact rfl; (focus ((intro m; first | assumption | (apply Ext.at; (exact extA)) | apply But.of_at; first | exact But.upd (by assumption) | exact But.ext (by (exact extA)) | (refine But.trans ?_ (But.upd (by assumption)); exact But.ext (by (exact extA))) | exact But.at _ _ _); done)); (iterate 4 exact rfl); (focus (intro w9 hw9; exact ref34_turnedX y.1 x _ hr)))
      | (apply WL.lit tOk; (iterate 6 exact rfl); (first | exact rfl | kernel_rfl | (simp [Instr.fill, catCells]; done)); exact rfl; intro gb w' hb hge hc hx; (obtain ⟨wL, rfl⟩ : ∃ x, x = w' := ⟨_, rfl⟩; obtain ⟨hxL, rfl⟩ : ∃ x, x = hx := ⟨_, rfl⟩))
      | (apply WL.append1 tOk encI_ok; (iterate 10 exact rfl); assumption; (exact extA); (first | exact rfl | (focus (simp only [List.length_set]; done)) | (focus (simp; done)) | (focus (simp [*]; done)) | omega | (focus (simp only [List.length_set]; omega))); assumption; (first | exact rfl | exact (rfl : encI (_, _) = _)); exact rfl; (exact extA); (first | omega | (simp; omega) | (simp at *; omega)); intro a' cap' w' hO hX' hU hF)
      | (show WL _ _ _ _ _ _ _; first | apply WL.nil | (refine WL.au (k := ?_)))
      | (show SG _ _ _ _ _ _ _ _ _; first | apply SG.done | (apply SG.fl0; exact rfl) | (apply SG.fl1; exact rfl; (focus ((intro m; first | assumption | (apply Ext.at; (exact extA)) | apply But.of_at; first | exact But.upd (by assumption) | exact But.ext (by (exact extA)) | (refine But.trans ?_ (But.upd (by assumption)); exact But.ext (by (exact extA))) | exact But.at _ _ _); done))) | (apply SG.br1; exact rfl))
      | (show FL _ _ _ _ _ _ _ _; first | apply FL.nilS | (refine FL.au (k := ?_)) | (apply FL.loadG tOk; (iterate 5 exact rfl); (first | assumption | (focus (apply Ext.cell; rotate_left; assumption; (exact extA); done))); (first | (focus (intro h; cases h; done)) | (focus (intro h; have h9 := hBC _ h; (try simp only at h9); omega)) | assumption | (focus (intro h; simp only [blk, Option.map_some, Option.some.injEq] at h; omega)))) | (apply FL.index tOk; (iterate 8 exact rfl); assumption; (exact extA); exact rfl; omega; assumption; exact List.cons_ne_nil _ _; intro b off h hbl; have hcc := h; first | (obtain ⟨h1, h2, h3, h4, h5, h6, _⟩ := h) | (obtain ⟨h1, h2, h3, _⟩ := h) | (obtain ⟨h1, h2, _⟩ := h) | (obtain ⟨h1, _⟩ := h)))
      | (show Z _ _ _ _ _; (apply Z.sgE; (focus ((intro m; first | assumption | (apply Ext.at; (exact extA)) | apply But.of_at; first | exact But.upd (by assumption) | exact But.ext (by (exact extA)) | (refine But.trans ?_ (But.upd (by assumption)); exact But.ext (by (exact extA))) | exact But.at _ _ _); done))))
      | (show Z _ _ _ _ _; first | apply Z.then_normal | apply Z.block_normal)
      | (show W _ _ _ _ _ _; first | apply W.seq | apply W.region | apply W.block | apply W.skip)
      | fail)
    have hzL := Below.size hxL
    exact Z.againO a' cap' ⟨by omega, hX', by rw [e1]; exact hO, blk_fromL hBC hF (Nat.le_trans hz1 hzL), UpdNot hU (hcl0.ext hxL) (fun he => by have := hBC gc he; omega), by have := hU.size; omega⟩ (by repeat' first | exact trivial | (refine And.intro ?_ ?_) | exact rfl | (rw [e1]; exact rfl))
  · obtain rfl : j = k.length := by omega
    rw [List.take_length] at hO1
    repeat' (first
      | (apply W.condKF; exact rfl; (focus (exact dec_false (by omega); done)))
      | (show WL _ _ _ _ _ _ _; first | apply WL.nil | (refine WL.au (k := ?_)))
      | (show Z _ _ _ _ _; first | apply Z.then_normal | apply Z.then_exit | apply Z.block_exit)
      | (show W _ _ _ _ _ _; first | apply W.seq | apply W.region | apply W.ret | apply W.exit)
      | fail)
    exact Z.body1 Try.results70 rfl fun m => ⟨Ext.at hX1 m, bb, cp, by rw [List.take_length], hO1⟩
end Go.Proofs.Yteidpnpbfagaeaa
namespace Go.Proofs.Yteidpnpbfagaeaa
open Go Go.Lt Go.RowKit
set_option linter.unusedVariables false
set_option linter.unusedSimpArgs false
set_option maxRecDepth 20000

def In1 (st : List Bool) (x : Int) : Prop := 0 ≤ x ∧ (x / 2).toNat < st.length ∧ st.getD (x / 2).toNat false = decide (x % 2 = 0)
theorem take_all {α : Type} {P : α → Prop} {l : List α} {j : Nat} {x : α} (hx : l[j]? = some x) (h : ∀ y ∈ l.take j, P y) (h1 : P x) : ∀ y ∈ l.take (j + 1), P y := by
  intro y hy
  rw [take_succ' hx] at hy
  rcases List.mem_append.1 hy with hy | hy
  · exact h y hy
  · rw [List.mem_singleton.1 hy]; exact h1
set_option maxHeartbeats 1000000 in
theorem ref32_Has (a b : Option Addr) (ca cb : Nat) (k : List Int) (st : List Bool) (w : World) (R : Row 1 encI w a k) (Rb : Row 1 encB w b st) (hk : ∀ x ∈ k, x ≤ 9223372036854775807) :
    Still Try.prog 20 [.slice a k.length ca, .slice b st.length cb] w (.bool (dec (InCube k st))) := by
  have hl := R.len
  have hlb := Rb.len
  refine Spec.of _ Try.func20 rfl Try.ntmps20 (by kernel_rfl) rfl ?_
  repeat' (first
    | (show WL _ _ _ _ _ _ _; first | apply WL.nil | (refine WL.au (k := ?_)))
    | (show Z _ _ _ _ _; apply Z.then_normal)
    | (show W _ _ _ _ _ _; first | apply W.seq | apply W.region | apply W.block)
    | fail)
  refine W.loop1 k.length (fun j => j ≤ k.length ∧ ∀ x ∈ k.take j, In1 st x) (fun j => [(0, .slice a k.length ca), (1, .slice b st.length cb), (5, .int .i64 j)]) ⟨Nat.zero_le _, fun x hx => by cases hx⟩ (fun k h => h.1) (by repeat' first | exact trivial | (refine And.intro ?_ ?_) | exact rfl) ?_
  rintro j ⟨hj, hall⟩
  by_cases hlt : j < k.length
  · obtain ⟨x, hx⟩ := getI k hlt
    have hxm := List.mem_of_getElem? hx
    have hx1 := hk x hxm
    have no : ∀ (h : ¬ In1 st x), dec (InCube k st) = false := fun h => dec_false fun hh => h (hh x hxm)
    by_cases q1 : x < 0
    · repeat' (first
        | (apply QL.gT; exact rfl; exact rfl; (focus (first | exact dec_true (by omega); done)))
        | (apply W.condKT; exact rfl; (focus (first | exact dec_true (by omega); done)))
        | (show WL _ _ _ _ _ _ _; first | apply WL.nil | (refine WL.au (k := ?_)))
        | (show QL _ _ _ _ _ _ _; first | apply QL.nil | (refine QL.au (k := ?_)) | (apply QL.index tOk; (iterate 8 exact rfl); assumption; (exact extA); exact rfl; omega; assumption; intro b off h; have hcc := h; first | (obtain ⟨h1, h2, h3, h4, h5, h6, _⟩ := h) | (obtain ⟨h1, h2, h3, _⟩ := h) | (obtain ⟨h1, h2, _⟩ := h) | (obtain ⟨h1, _⟩ := h)) | (apply QL.guardF; exact rfl; exact rfl))
        | (show Z _ _ _ _ _; first | apply Z.then_normal | apply Z.then_ret | apply Z.block_ret)
        | (show W _ _ _ _ _ _; first | apply W.seq | apply W.region | apply W.block | apply W.skip | apply W.ret | (apply W.condT; exact rfl) | (apply W.regionD tMix; kernel_rfl))
        | fail)
      exact Z.body1 Try.results20 rfl fun m => ⟨by rw [no (fun h => by have := h.1; omega)], m, rfl⟩
    by_cases q2 : (x / 2).toNat < st.length
    rotate_left
    · repeat' (first
        | (apply QL.gT; exact rfl; exact rfl; (focus (first | exact dec_true (by omega) | exact dec_false (by omega); done)))
        | (apply QL.gF; exact rfl; exact rfl; (focus (first | exact dec_true (by omega) | exact dec_false (by omega); done)))
        | (apply W.condKT; exact rfl; (focus (first | exact dec_true (by omega) | exact dec_false (by omega); done)))
        | (show WL _ _ _ _ _ _ _; first | apply WL.nil | (refine WL.au (k := ?_)))
        | (show QL _ _ _ _ _ _ _; first | apply QL.nil | (refine QL.au (k := ?_)) | (apply QL.index tOk; (iterate 8 exact rfl); assumption; (exact extA); exact rfl; omega; assumption; intro b off h; have hcc := h; first | (obtain ⟨h1, h2, h3, h4, h5, h6, _⟩ := h) | (obtain ⟨h1, h2, h3, _⟩ := h) | (obtain ⟨h1, h2, _⟩ := h) | (obtain ⟨h1, _⟩ := h)) | (apply QL.guardF; exact rfl; exact rfl))
        | (show Z _ _ _ _ _; first | apply Z.then_normal | apply Z.then_ret | apply Z.block_ret)
        | (show W _ _ _ _ _ _; first | apply W.seq | apply W.region | apply W.block | apply W.skip | apply W.ret | (apply W.condT; exact rfl) | (apply W.regionD tMix; kernel_rfl))
        | fail)
      exact Z.body1 Try.results20 rfl fun m => ⟨by rw [no (fun h => q2 h.2.1)], m, rfl⟩
    obtain ⟨y, hy⟩ := getI st q2
    have hyd := getD_of (d := false) hy
    by_cases q3 : y = decide (x % 2 = 0)
    · have q4 : ¬ (y = dec (x % 2 = 1)) := by
        rw [q3]
        by_cases h : x % 2 = 1
        · rw [dec_true h, decide_eq_false (by omega)]; simp
        · rw [dec_false h, decide_eq_true (by omega)]; simp
      repeat' (first
        | (apply QL.gF; exact rfl; exact rfl; (focus (first | exact dec_true (by omega) | exact dec_false (by omega) | exact dec_false q4; done)))
        | (apply W.condKT; exact rfl; (focus (first | exact dec_true (by omega) | exact dec_false (by omega) | exact dec_false q4; done)))
        | (apply W.condKF; exact rfl; (focus (first | exact dec_true (by omega) | exact dec_false (by omega) | exact dec_false q4; done)))
        | (show WL _ _ _ _ _ _ _; first | apply WL.nil | (refine WL.au (k := ?_)))
        | (show QL _ _ _ _ _ _ _; first | apply QL.nil | (refine QL.au (k := ?_)) | (apply QL.index tOk; (iterate 8 exact rfl); assumption; (exact extA); exact rfl; omega; assumption; intro b off h; have hcc := h; first | (obtain ⟨h1, h2, h3, h4, h5, h6, _⟩ := h) | (obtain ⟨h1, h2, h3, _⟩ := h) | (obtain ⟨h1, h2, _⟩ := h) | (obtain ⟨h1, _⟩ := h)))
        | (show Z _ _ _ _ _; first | apply Z.then_normal | apply Z.block_normal)
        | (show W _ _ _ _ _ _; first | apply W.seq | apply W.region | apply W.block | apply W.skip | (apply W.regionD tMix; kernel_rfl))
        | fail)
      exact Z.again1 ⟨by omega, take_all hx hall ⟨by omega, q2, by rw [hyd]; exact q3⟩⟩ (by repeat' first | exact trivial | (refine And.intro ?_ ?_) | exact rfl)
    · have q4 : y = dec (x % 2 = 1) := by
        by_cases h : x % 2 = 1
        · rw [decide_eq_false (by omega)] at q3
          rw [dec_true h]; cases y <;> simp_all
        · rw [decide_eq_true (by omega)] at q3
          rw [dec_false h]; cases y <;> simp_all
      repeat' (first
        | (apply QL.gF; exact rfl; exact rfl; (focus (first | exact dec_true (by omega) | exact dec_false (by omega) | exact dec_true q4; done)))
        | (apply W.condKT; exact rfl; (focus (first | exact dec_true (by omega) | exact dec_false (by omega) | exact dec_true q4; done)))
        | (show WL _ _ _ _ _ _ _; first | apply WL.nil | (refine WL.au (k := ?_)))
        | (show QL _ _ _ _ _ _ _; first | apply QL.nil | (refine QL.au (k := ?_)) | (apply QL.index tOk; (iterate 8 exact rfl); assumption; (exact extA); exact rfl; omega; assumption; intro b off h; have hcc := h; first | (obtain ⟨h1, h2, h3, h4, h5, h6, _⟩ := h) | (obtain ⟨h1, h2, h3, _⟩ := h) | (obtain ⟨h1, h2, _⟩ := h) | (obtain ⟨h1, _⟩ := h)))
        | (show Z _ _ _ _ _; first | apply Z.then_normal | apply Z.then_ret | apply Z.block_ret)
        | (show W _ _ _ _ _ _; first | apply W.seq | apply W.region | apply W.block | apply W.skip | apply W.ret | (apply W.regionD tMix; kernel_rfl))
        | fail)
      exact Z.body1 Try.results20 rfl fun m => ⟨by rw [no (fun h => q3 (by rw [← hyd]; exact h.2.2))], m, rfl⟩
  · obtain rfl : j = k.length := by omega
    rw [List.take_length] at hall
    repeat' (first
      | (apply W.condKF; exact rfl; (focus (exact dec_false (by omega); done)))
      | (show WL _ _ _ _ _ _ _; first | apply WL.nil | (refine WL.au (k := ?_)))
      | (show Z _ _ _ _ _; first | apply Z.then_normal | apply Z.then_exit | apply Z.block_exit)
      | (show W _ _ _ _ _ _; first | apply W.seq | apply W.region | apply W.ret | apply W.exit)
      | fail)
    exact Z.body1 Try.results20 rfl fun m => ⟨congrArg Value.bool (dec_true hall).symm, m, rfl⟩
def v3T (l : List Bool) (m k : Nat) : List Int := tab m (fun u => if u < k then b3 (l.getD u false) else 0)
theorem v3T_len (l : List Bool) (m k : Nat) : (v3T l m k).length = m := tab_len _ _
theorem v3T_start (l : List Bool) (m : Nat) : List.replicate m (0 : Int) = v3T l m 0 := by rw [tab_rep]; exact tab_congr fun u hu => (if_neg (by omega)).symm
theorem v3T_get {l : List Bool} {m k : Nat} (h : k < m) : (v3T l m k)[k]? = some 0 := by unfold v3T; rw [tab_get _ h, if_neg (by omega)]
theorem v3T_set {l : List Bool} {m k : Nat} (h : l.getD k false = true) : (v3T l m k).set k 1 = v3T l m (k + 1) := by
  refine tab_set fun u hu => ?_
  by_cases h1 : u = k
  · subst h1; rw [if_pos rfl, if_pos (by omega), h]; rfl
  · rw [if_neg h1]
    by_cases h2 : u < k
    · rw [if_pos h2, if_pos (by omega)]
    · rw [if_neg h2, if_neg (by omega)]
theorem v3T_no {l : List Bool} {m k : Nat} (h : l.getD k false = false) : v3T l m k = v3T l m (k + 1) := by
  refine tab_congr fun u hu => ?_
  by_cases h1 : u = k
  · subst h1; rw [if_neg (by omega), if_pos (by omega), h]; rfl
  · by_cases h2 : u < k
    · rw [if_pos h2, if_pos (by omega)]
    · rw [if_neg h2, if_neg (by omega)]
theorem v3T_all (l : List Bool) (m : Nat) : v3T l m m = v3 (brV l m) := by
  refine (tab_eq (by rw [v3_len, brV_len]) fun u x hx => ?_).symm
  have hu := lt_of_get hx
  rw [v3_len, brV_len] at hu
  rw [if_pos hu]
  unfold v3 at hx
  rw [List.getElem?_map, brV_get l hu] at hx
  exact Option.some.inj hx
theorem lift_values (a : Option Addr) (cap : Nat) (l : List Bool) (m : Nat) (w : World) (R : Row 1 encB w a l) (hm : m ≤ 1048576) :
    Lt.Spec Try.prog 104 [.slice a l.length cap, .int .i64 (m : Nat)] w (IsFresh 1 encI 3 w (v3 (brV l m))) := by
  have hl := R.len
  refine Spec.of _ Try.func104 rfl Try.ntmps104 (by kernel_rfl) rfl ?_
  repeat' (first
    | (apply WL.make (w0 := w) tOk; (iterate 9 exact rfl); exact encI_ok; exact rfl; exact rfl; (exact extA); (first | omega | (simp; omega) | (simp at *; omega)); intro gb w' hO hge hx)
    | (show WL _ _ _ _ _ _ _; first | apply WL.nil | (refine WL.au (k := ?_)))
    | (show Z _ _ _ _ _; apply Z.then_normal)
    | (show W _ _ _ _ _ _; first | apply W.seq | apply W.region | apply W.block)
    | fail)
  have em : ((m : Nat) : Int).toNat = m := Int.toNat_natCast _
  have erl : (List.replicate m (0 : Int)).length = m := List.length_replicate
  rw [em] at hO ⊢
  rw [v3T_start l m] at hO
  obtain ⟨g5, rfl⟩ : ∃ x, x = gb := ⟨_, rfl⟩
  refine W.loopW m (fun k w' => k ≤ m ∧ Ext w w' ∧ Own 1 encI 3 w.heap.size w' (some ⟨g5, 0, none⟩) m (v3T l m k)) (fun k => [(0, .slice a l.length cap), (5, .slice (some ⟨g5, 0, none⟩) m m), (10, .int .i64 (m : Nat)), (11, .int .i64 k)]) ⟨Nat.zero_le _, hx, hO⟩ (fun k w' h => h.1) (by repeat' first | exact trivial | (refine And.intro ?_ ?_) | exact rfl | (rw [erl]; exact rfl)) ?_
  clear hO
  rintro k w1 ⟨hk, hX1, hO1⟩
  have hvl := v3T_len l m k
  by_cases hlt : k < m
  · have hz := v3T_get (l := l) hlt
    have R1 := R.ext hX1
    by_cases hkl : k < l.length
    · obtain ⟨x, hx⟩ := getI l hkl
      have hd := getD_of (d := false) hx
      cases x with
      | true =>
        repeat' (first
          | (apply WL.gT; exact rfl; exact rfl; (focus (exact dec_true (by omega); done)))
          | (apply W.condKT; exact rfl; (focus (exact dec_true (by omega); done)))
          | (apply WL.indexO tOk; (iterate 8 exact rfl); assumption; (exact extA); exact encI_ok; (first | exact rfl | (focus (simp only [List.length_set]; done)) | (focus (simp; done)) | (focus (simp [*]; done)) | omega | (focus (simp only [List.length_set]; omega))); omega; assumption; intro gb ha hc; cases ha; have hcc := hc; first | (obtain ⟨h1, h2, h3, _⟩ := hc) | (obtain ⟨h1, h2, _⟩ := hc) | (obtain ⟨h1, _⟩ := hc))
          | (apply WL.storeO tOk; (iterate 4 exact rfl); assumption; (exact extA); (iterate 3 exact rfl); exact encI_ok; assumption; exact rfl; (exact extA); intro w' hO hX' hU)
          | (show WL _ _ _ _ _ _ _; first | apply WL.nil | (refine WL.au (k := ?_)) | (apply WL.index tOk; (iterate 8 exact rfl); assumption; (exact extA); exact rfl; omega; assumption; intro b off h; have hcc := h; first | (obtain ⟨h1, h2, h3, h4, h5, h6, _⟩ := h) | (obtain ⟨h1, h2, h3, _⟩ := h) | (obtain ⟨h1, h2, _⟩ := h) | (obtain ⟨h1, _⟩ := h)))
          | (show Z _ _ _ _ _; first | apply Z.then_normal | apply Z.block_normal)
          | (show W _ _ _ _ _ _; first | apply W.seq | apply W.region | apply W.block | apply W.skip | (apply W.condT; exact rfl))
          | fail)
        rw [Int.toNat_natCast, v3T_set hd] at hO
        exact Z.againW ⟨by omega, hX', hO⟩ (by repeat' first | exact trivial | (refine And.intro ?_ ?_) | exact rfl)
      | false =>
        repeat' (first
          | (apply WL.gT; exact rfl; exact rfl; (focus (exact dec_true (by omega); done)))
          | (apply W.condKT; exact rfl; (focus (exact dec_true (by omega); done)))
          | (show WL _ _ _ _ _ _ _; first | apply WL.nil | (refine WL.au (k := ?_)) | (apply WL.index tOk; (iterate 8 exact rfl); assumption; (exact extA); exact rfl; omega; assumption; intro b off h; have hcc := h; first | (obtain ⟨h1, h2, h3, h4, h5, h6, _⟩ := h) | (obtain ⟨h1, h2, h3, _⟩ := h) | (obtain ⟨h1, h2, _⟩ := h) | (obtain ⟨h1, _⟩ := h)))
          | (show Z _ _ _ _ _; first | apply Z.then_normal | apply Z.block_normal)
          | (show W _ _ _ _ _ _; first | apply W.seq | apply W.region | apply W.block | apply W.skip | (apply W.condF; exact rfl))
          | fail)
        exact Z.againW ⟨by omega, hX1, by rw [← v3T_no hd]; exact hO1⟩ (by repeat' first | exact trivial | (refine And.intro ?_ ?_) | exact rfl)
    · have hd : l.getD k false = false := by rw [List.getD, List.getElem?_eq_none (by omega)]; rfl
      repeat' (first
        | (apply WL.gF; exact rfl; exact rfl; (focus (first | exact dec_true (by omega) | exact dec_false (by omega); done)))
        | (apply W.condKT; exact rfl; (focus (first | exact dec_true (by omega) | exact dec_false (by omega); done)))
        | (show WL _ _ _ _ _ _ _; first | apply WL.nil | (refine WL.au (k := ?_)) | (apply WL.guardF; exact rfl; exact rfl))
        | (show Z _ _ _ _ _; first | apply Z.then_normal | apply Z.block_normal)
        | (show W _ _ _ _ _ _; first | apply W.seq | apply W.region | apply W.block | apply W.skip | (apply W.condF; exact rfl))
        | fail)
      exact Z.againW ⟨by omega, hX1, by rw [← v3T_no hd]; exact hO1⟩ (by repeat' first | exact trivial | (refine And.intro ?_ ?_) | exact rfl)
  · obtain rfl : k = m := by omega
    rw [v3T_all] at hO1
    have e9 : (v3 (brV l k)).length = k := by rw [v3_len, brV_len]
    repeat' (first
      | (apply W.condKF; exact rfl; (focus (exact dec_false (by omega); done)))
      | (show WL _ _ _ _ _ _ _; first | apply WL.nil | (refine WL.au (k := ?_)))
      | (show Z _ _ _ _ _; first | apply Z.then_normal | apply Z.then_exit | apply Z.block_exit)
      | (show W _ _ _ _ _ _; first | apply W.seq | apply W.region | apply W.ret | apply W.exit)
      | fail)
    exact Z.body1 Try.results104 rfl fun m => ⟨Ext.at hX1 m, _, k, by rw [e9], hO1⟩
end Go.Proofs.Yteidpnpbfagaeaa
namespace Go.Proofs.Yteidpnpbfagaeaa
open Go Go.Lt Go.RowKit
set_option linter.unusedVariables false
set_option linter.unusedSimpArgs false
set_option maxRecDepth 20000

theorem few_iff {c : CirT} {m : Int} : FewC c m ↔ (c.ins.length : Int) ≤ m ∧ (c.lat.length : Int) ≤ m ∧ (c.gates.length : Int) ≤ m ∧ (c.outs.length : Int) ≤ m ∧ (c.bads.length : Int) ≤ m ∧ (c.cons.length : Int) ≤ m ∧ (c.syms.length : Int) ≤ m ∧ (c.com.size : Int) ≤ 300 := Iff.rfl
set_option maxHeartbeats 16000000 in
set_option maxRecDepth 10000 in
theorem law11_Few (c : Circ) (m : Int) (w : World) : Pure Try.prog 49 [c.val, .int .i64 m] w (.bool (dec (FewC c.t m))) := by
  by_cases f0 : (c.ins.2.2.length : Int) ≤ m
  rotate_left
  · skip
    refine Spec.of _ Try.func49 rfl Try.ntmps49 (by kernel_rfl) rfl ?_
    repeat' (first
      | (apply WL.box; (iterate 3 exact rfl); intro gb w' hb hge hc hx; have hcc := hc; (first | (obtain ⟨h1, h2, h3, _⟩ := hc) | (obtain ⟨h1, h2, _⟩ := hc)); (obtain ⟨y0, y1, y2, y3, y4, y5, y6, y7, y8, _⟩ := hcc))
      | (apply WL.gF; exact rfl; exact rfl; (focus (first | exact dec_false f0; done)))
      | (show WL _ _ _ _ _ _ _; first | apply WL.nil | (refine WL.au (k := ?_)) | (apply WL.guardF; exact rfl; exact rfl))
      | (show Z _ _ _ _ _; apply Z.then_normal)
      | (show W _ _ _ _ _ _; first | apply W.seq | apply W.region | apply W.ret)
      | fail)
    exact Z.body1 Try.results49 rfl fun q => ⟨congrArg Value.bool (by rw [dec_false (show ¬ FewC c.t m from fun h => f0 (few_iff.1 h).1)] <;> exact dec_false f0), Ext.at (by (exact extA)) q⟩
  by_cases f1 : (c.lat.2.2.length : Int) ≤ m
  rotate_left
  · skip
    refine Spec.of _ Try.func49 rfl Try.ntmps49 (by kernel_rfl) rfl ?_
    repeat' (first
      | (apply WL.box; (iterate 3 exact rfl); intro gb w' hb hge hc hx; have hcc := hc; (first | (obtain ⟨h1, h2, h3, _⟩ := hc) | (obtain ⟨h1, h2, _⟩ := hc)); (obtain ⟨y0, y1, y2, y3, y4, y5, y6, y7, y8, _⟩ := hcc))
      | (apply WL.gT; exact rfl; exact rfl; (focus (first | exact dec_true f0 | exact dec_false f1; done)))
      | (apply WL.gF; exact rfl; exact rfl; (focus (first | exact dec_true f0 | exact dec_false f1; done)))
      | (show WL _ _ _ _ _ _ _; first | apply WL.nil | (refine WL.au (k := ?_)) | (apply WL.guardF; exact rfl; exact rfl))
      | (show Z _ _ _ _ _; apply Z.then_normal)
      | (show W _ _ _ _ _ _; first | apply W.seq | apply W.region | apply W.ret)
      | fail)
    exact Z.body1 Try.results49 rfl fun q => ⟨congrArg Value.bool (by rw [dec_false (show ¬ FewC c.t m from fun h => f1 (few_iff.1 h).2.1)] <;> exact dec_false f1), Ext.at (by (exact extA)) q⟩
  by_cases f2 : (c.gates.2.2.length : Int) ≤ m
  rotate_left
  · skip
    refine Spec.of _ Try.func49 rfl Try.ntmps49 (by kernel_rfl) rfl ?_
    repeat' (first
      | (apply WL.box; (iterate 3 exact rfl); intro gb w' hb hge hc hx; have hcc := hc; (first | (obtain ⟨h1, h2, h3, _⟩ := hc) | (obtain ⟨h1, h2, _⟩ := hc)); (obtain ⟨y0, y1, y2, y3, y4, y5, y6, y7, y8, _⟩ := hcc))
      | (apply WL.gT; exact rfl; exact rfl; (focus (first | exact dec_true f0 | exact dec_true f1 | exact dec_false f2; done)))
      | (apply WL.gF; exact rfl; exact rfl; (focus (first | exact dec_true f0 | exact dec_true f1 | exact dec_false f2; done)))
      | (show WL _ _ _ _ _ _ _; first | apply WL.nil | (refine WL.au (k := ?_)) | (apply WL.guardF; exact rfl; exact rfl))
      | (show Z _ _ _ _ _; apply Z.then_normal)
      | (show W _ _ _ _ _ _; first | apply W.seq | apply W.region | apply W.ret)
      | fail)
    exact Z.body1 Try.results49 rfl fun q => ⟨congrArg Value.bool (by rw [dec_false (show ¬ FewC c.t m from fun h => f2 (few_iff.1 h).2.2.1)] <;> exact dec_false f2), Ext.at (by (exact extA)) q⟩
  by_cases f3 : (c.outs.2.2.length : Int) ≤ m
  rotate_left
  · skip
    refine Spec.of _ Try.func49 rfl Try.ntmps49 (by kernel_rfl) rfl ?_
    repeat' (first
      | (apply WL.box; (iterate 3 exact rfl); intro gb w' hb hge hc hx; have hcc := hc; (first | (obtain ⟨h1, h2, h3, _⟩ := hc) | (obtain ⟨h1, h2, _⟩ := hc)); (obtain ⟨y0, y1, y2, y3, y4, y5, y6, y7, y8, _⟩ := hcc))
      | (apply WL.gT; exact rfl; exact rfl; (focus (first | exact dec_true f0 | exact dec_true f1 | exact dec_true f2 | exact dec_false f3; done)))
      | (apply WL.gF; exact rfl; exact rfl; (focus (first | exact dec_true f0 | exact dec_true f1 | exact dec_true f2 | exact dec_false f3; done)))
      | (show WL _ _ _ _ _ _ _; first | apply WL.nil | (refine WL.au (k := ?_)) | (apply WL.guardF; exact rfl; exact rfl))
      | (show Z _ _ _ _ _; apply Z.then_normal)
      | (show W _ _ _ _ _ _; first | apply W.seq | apply W.region | apply W.ret)
      | fail)
    exact Z.body1 Try.results49 rfl fun q => ⟨congrArg Value.bool (by rw [dec_false (show ¬ FewC c.t m from fun h => f3 (few_iff.1 h).2.2.2.1)] <;> exact dec_false f3), Ext.at (by (exact extA)) q⟩
  by_cases f4 : (c.bads.2.2.length : Int) ≤ m
  rotate_left
  · skip
    refine Spec.of _ Try.func49 rfl Try.ntmps49 (by kernel_rfl) rfl ?_
    repeat' (first
      | (apply WL.box; (iterate 3 exact rfl); intro gb w' hb hge hc hx; have hcc := hc; (first | (obtain ⟨h1, h2, h3, _⟩ := hc) | (obtain ⟨h1, h2, _⟩ := hc)); (obtain ⟨y0, y1, y2, y3, y4, y5, y6, y7, y8, _⟩ := hcc))
      | (apply WL.gT; exact rfl; exact rfl; (focus (first | exact dec_true f0 | exact dec_true f1 | exact dec_true f2 | exact dec_true f3 | exact dec_false f4; done)))
      | (apply WL.gF; exact rfl; exact rfl; (focus (first | exact dec_true f0 | exact dec_true f1 | exact dec_true f2 | exact dec_true f3 | exact dec_false f4; done)))
      | (show WL _ _ _ _ _ _ _; first | apply WL.nil | (refine WL.au (k := ?_)) | (apply WL.guardF; exact rfl; exact rfl))
      | (show Z _ _ _ _ _; apply Z.then_normal)
      | (show W _ _ _ _ _ _; first | apply W.seq | apply W.region | apply W.ret)
      | fail)
    exact Z.body1 Try.results49 rfl fun q => ⟨congrArg Value.bool (by rw [dec_false (show ¬ FewC c.t m from fun h => f4 (few_iff.1 h).2.2.2.2.1)] <;> exact dec_false f4), Ext.at (by (exact extA)) q⟩
  by_cases f5 : (c.cons.2.2.length : Int) ≤ m
  rotate_left
  · skip
    refine Spec.of _ Try.func49 rfl Try.ntmps49 (by kernel_rfl) rfl ?_
    repeat' (first
      | (apply WL.box; (iterate 3 exact rfl); intro gb w' hb hge hc hx; have hcc := hc; (first | (obtain ⟨h1, h2, h3, _⟩ := hc) | (obtain ⟨h1, h2, _⟩ := hc)); (obtain ⟨y0, y1, y2, y3, y4, y5, y6, y7, y8, _⟩ := hcc))
      | (apply WL.gT; exact rfl; exact rfl; (focus (first | exact dec_true f0 | exact dec_true f1 | exact dec_true f2 | exact dec_true f3 | exact dec_true f4 | exact dec_false f5; done)))
      | (apply WL.gF; exact rfl; exact rfl; (focus (first | exact dec_true f0 | exact dec_true f1 | exact dec_true f2 | exact dec_true f3 | exact dec_true f4 | exact dec_false f5; done)))
      | (show WL _ _ _ _ _ _ _; first | apply WL.nil | (refine WL.au (k := ?_)) | (apply WL.guardF; exact rfl; exact rfl))
      | (show Z _ _ _ _ _; apply Z.then_normal)
      | (show W _ _ _ _ _ _; first | apply W.seq | apply W.region | apply W.ret)
      | fail)
    exact Z.body1 Try.results49 rfl fun q => ⟨congrArg Value.bool (by rw [dec_false (show ¬ FewC c.t m from fun h => f5 (few_iff.1 h).2.2.2.2.2.1)] <;> exact dec_false f5), Ext.at (by (exact extA)) q⟩
  by_cases f6 : (c.syms.2.2.length : Int) ≤ m
  rotate_left
  · skip
    refine Spec.of _ Try.func49 rfl Try.ntmps49 (by kernel_rfl) rfl ?_
    repeat' (first
      | (apply WL.box; (iterate 3 exact rfl); intro gb w' hb hge hc hx; have hcc := hc; (first | (obtain ⟨h1, h2, h3, _⟩ := hc) | (obtain ⟨h1, h2, _⟩ := hc)); (obtain ⟨y0, y1, y2, y3, y4, y5, y6, y7, y8, _⟩ := hcc))
      | (apply WL.gT; exact rfl; exact rfl; (focus (first | exact dec_true f0 | exact dec_true f1 | exact dec_true f2 | exact dec_true f3 | exact dec_true f4 | exact dec_true f5 | exact dec_false f6; done)))
      | (apply WL.gF; exact rfl; exact rfl; (focus (first | exact dec_true f0 | exact dec_true f1 | exact dec_true f2 | exact dec_true f3 | exact dec_true f4 | exact dec_true f5 | exact dec_false f6; done)))
      | (show WL _ _ _ _ _ _ _; first | apply WL.nil | (refine WL.au (k := ?_)) | (apply WL.guardF; exact rfl; exact rfl))
      | (show Z _ _ _ _ _; apply Z.then_normal)
      | (show W _ _ _ _ _ _; first | apply W.seq | apply W.region | apply W.ret)
      | fail)
    exact Z.body1 Try.results49 rfl fun q => ⟨congrArg Value.bool (by rw [dec_false (show ¬ FewC c.t m from fun h => f6 (few_iff.1 h).2.2.2.2.2.2.1)] <;> exact dec_false f6), Ext.at (by (exact extA)) q⟩
  by_cases f7 : (c.com.size : Int) ≤ 300
  rotate_left
  · skip
    refine Spec.of _ Try.func49 rfl Try.ntmps49 (by kernel_rfl) rfl ?_
    repeat' (first
      | (apply WL.box; (iterate 3 exact rfl); intro gb w' hb hge hc hx; have hcc := hc; (first | (obtain ⟨h1, h2, h3, _⟩ := hc) | (obtain ⟨h1, h2, _⟩ := hc)); (obtain ⟨y0, y1, y2, y3, y4, y5, y6, y7, y8, _⟩ := hcc))
      | (apply WL.gT; exact rfl; exact rfl; (focus (first | exact dec_true f0 | exact dec_true f1 | exact dec_true f2 | exact dec_true f3 | exact dec_true f4 | exact dec_true f5 | exact dec_true f6 | exact dec_false f7; done)))
      | (show WL _ _ _ _ _ _ _; first | apply WL.nil | (refine WL.au (k := ?_)))
      | (show Z _ _ _ _ _; apply Z.then_normal)
      | (show W _ _ _ _ _ _; first | apply W.seq | apply W.region | apply W.ret)
      | fail)
    exact Z.body1 Try.results49 rfl fun q => ⟨congrArg Value.bool (by rw [dec_false (show ¬ FewC c.t m from fun h => f7 (few_iff.1 h).2.2.2.2.2.2.2)] <;> exact dec_false f7), Ext.at (by (exact extA)) q⟩
  refine Spec.of _ Try.func49 rfl Try.ntmps49 (by kernel_rfl) rfl ?_
  repeat' (first
    | (apply WL.box; (iterate 3 exact rfl); intro gb w' hb hge hc hx; have hcc := hc; (first | (obtain ⟨h1, h2, h3, _⟩ := hc) | (obtain ⟨h1, h2, _⟩ := hc)); (obtain ⟨y0, y1, y2, y3, y4, y5, y6, y7, y8, _⟩ := hcc))
    | (apply WL.gT; exact rfl; exact rfl; (focus (first | exact dec_true f0 | exact dec_true f1 | exact dec_true f2 | exact dec_true f3 | exact dec_true f4 | exact dec_true f5 | exact dec_true f6 | exact dec_true f7; done)))
    | (show WL _ _ _ _ _ _ _; first | apply WL.nil | (refine WL.au (k := ?_)))
    | (show Z _ _ _ _ _; apply Z.then_normal)
    | (show W _ _ _ _ _ _; first | apply W.seq | apply W.region | apply W.ret)
    | fail)
  exact Z.body1 Try.results49 rfl fun q => ⟨congrArg Value.bool (by rw [dec_true (show FewC c.t m from few_iff.2 ⟨f0, f1, f2, f3, f4, f5, f6, f7⟩)] <;> exact dec_true f7), Ext.at (by (exact extA)) q⟩
end Go.Proofs.Yteidpnpbfagaeaa
namespace Go.Proofs.Yteidpnpbfagaeaa
open Go Go.Lt Go.RowKit
set_option linter.unusedVariables false
set_option linter.unusedSimpArgs false
set_option maxRecDepth 20000

theorem few_sz {c : CirT} {m : Int} (hm : m ≤ 100000) (h : FewC c m) : SzC c 100000 := by
  obtain ⟨h1, h2, h3, h4, h5, h6, _, _⟩ := few_iff.1 h
  exact ⟨by omega, by omega, by omega, by omega, by omega, by omega⟩
set_option maxHeartbeats 16000000 in
theorem law11_Small (c : Circ) (m : Int) (w : World) (hC : CAt w c) (hm : m ≤ 100000) : Pure Try.prog 7 [c.val, .int .i64 m] w (.bool (dec (FewC c.t m ∧ c.max ≤ 300 ∧ GoodC' c.t))) := by
  by_cases f0 : FewC c.t m
  rotate_left
  · refine Spec.of _ Try.func7 rfl Try.ntmps7 (by kernel_rfl) rfl ?_
    repeat' (first
      | (apply WL.box; (iterate 3 exact rfl); intro gb w' hb hge hc hx; have hcc := hc; (first | (obtain ⟨h1, h2, h3, _⟩ := hc) | (obtain ⟨h1, h2, _⟩ := hc)); (have hcells := hcc; obtain ⟨y0, _⟩ := hcc))
      | ((show WL _ _ _ (⟨_, .call ⟨.value (.func 49), _, _⟩, _, _, _, _⟩ :: _) _ _ _); apply WL.callP; (iterate 4 exact rfl); exact law11_Few c m _; intro w' hx)
      | (apply WL.gF; exact rfl; exact rfl; (focus (exact dec_false f0; done)))
      | (show WL _ _ _ _ _ _ _; first | apply WL.nil | (refine WL.au (k := ?_)) | (apply WL.guardF; exact rfl; exact rfl))
      | (show Z _ _ _ _ _; apply Z.then_normal)
      | (show W _ _ _ _ _ _; first | apply W.seq | apply W.region | apply W.ret)
      | fail)
    exact Z.body1 Try.results7 rfl fun q => ⟨congrArg Value.bool (by rw [dec_false (show ¬ (FewC c.t m ∧ c.max ≤ 300 ∧ GoodC' c.t) from fun h => f0 h.1)] <;> exact dec_false f0), Ext.at (by (exact extA)) q⟩
  by_cases f1 : c.max ≤ 300
  rotate_left
  · refine Spec.of _ Try.func7 rfl Try.ntmps7 (by kernel_rfl) rfl ?_
    repeat' (first
      | (apply WL.box; (iterate 3 exact rfl); intro gb w' hb hge hc hx; have hcc := hc; (first | (obtain ⟨h1, h2, h3, _⟩ := hc) | (obtain ⟨h1, h2, _⟩ := hc)); (have hcells := hcc; obtain ⟨y0, _⟩ := hcc))
      | ((show WL _ _ _ (⟨_, .call ⟨.value (.func 49), _, _⟩, _, _, _, _⟩ :: _) _ _ _); apply WL.callP; (iterate 4 exact rfl); exact law11_Few c m _; intro w' hx)
      | (apply WL.gT; exact rfl; exact rfl; (focus (first | exact dec_true f0 | exact dec_false f1; done)))
      | (apply WL.gF; exact rfl; exact rfl; (focus (first | exact dec_true f0 | exact dec_false f1; done)))
      | (show WL _ _ _ _ _ _ _; first | apply WL.nil | (refine WL.au (k := ?_)) | (apply WL.guardF; exact rfl; exact rfl))
      | (show Z _ _ _ _ _; apply Z.then_normal)
      | (show W _ _ _ _ _ _; first | apply W.seq | apply W.region | apply W.ret)
      | fail)
    exact Z.body1 Try.results7 rfl fun q => ⟨congrArg Value.bool (by rw [dec_false (show ¬ (FewC c.t m ∧ c.max ≤ 300 ∧ GoodC' c.t) from fun h => f1 h.2.1)] <;> exact dec_false f1), Ext.at (by (exact extA)) q⟩
  have hz := few_sz hm f0
  refine Spec.of _ Try.func7 rfl Try.ntmps7 (by kernel_rfl) rfl ?_
  repeat' (first
    | (apply WL.box; (iterate 3 exact rfl); intro gb w' hb hge hc hx; have hcc := hc; (first | (obtain ⟨h1, h2, h3, _⟩ := hc) | (obtain ⟨h1, h2, _⟩ := hc)); (have hcells := hcc; obtain ⟨y0, _⟩ := hcc))
    | ((show WL _ _ _ (⟨_, .call ⟨.value (.func 49), _, _⟩, _, _, _, _⟩ :: _) _ _ _); apply WL.callP; (iterate 4 exact rfl); exact law11_Few c m _; intro w' hx)
    | ((show WL _ _ _ (⟨_, .call ⟨.value (.func 50), _, _⟩, _, _, _, _⟩ :: _) _ _ _); apply WL.callP; (iterate 4 exact rfl); exact ref11_Check c _ (hC.ext (by (exact extA))) hz; intro w' hx)
    | (apply WL.gT; exact rfl; exact rfl; (focus (first | exact dec_true f0 | exact dec_true f1; done)))
    | (show WL _ _ _ _ _ _ _; first | apply WL.nil | (refine WL.au (k := ?_)))
    | (show Z _ _ _ _ _; apply Z.then_normal)
    | (show W _ _ _ _ _ _; first | apply W.seq | apply W.region | apply W.ret)
    | fail)
  by_cases f2 : chkC c.t = 0
  · exact Z.body1 Try.results7 rfl fun q => ⟨congrArg Value.bool (by rw [dec_true (show FewC c.t m ∧ c.max ≤ 300 ∧ GoodC' c.t from ⟨f0, f1, chkC_good.1 f2⟩)] <;> exact dec_true f2), Ext.at (by (exact extA)) q⟩
  · exact Z.body1 Try.results7 rfl fun q => ⟨congrArg Value.bool (by rw [dec_false (show ¬ (FewC c.t m ∧ c.max ≤ 300 ∧ GoodC' c.t) from fun h => f2 (chkC_good.2 h.2.2))] <;> exact dec_false f2), Ext.at (by (exact extA)) q⟩
end Go.Proofs.Yteidpnpbfagaeaa
namespace Go.Proofs.Yteidpnpbfagaeaa
open Go Go.Lt Go.RowKit
set_option linter.unusedVariables false
set_option linter.unusedSimpArgs false
set_option maxRecDepth 20000

/-- The rows of a circuit, each in a block of its own. -/
noncomputable def Circ.ps (B : Nat) (d : Circ) : List Piece :=
  [prowZ 3 encY 150 B d.syms.1 d.syms.2.1 d.syms.2.2, prowZ 3 enc3 89 B d.gates.1 d.gates.2.1 d.gates.2.2, prowZ 3 enc3 87 B d.lat.1 d.lat.2.1 d.lat.2.2,
    prowZ 1 encI 3 B d.cons.1 d.cons.2.1 d.cons.2.2, prowZ 1 encI 3 B d.bads.1 d.bads.2.1 d.bads.2.2, prowZ 1 encI 3 B d.outs.1 d.outs.2.1 d.outs.2.2, prowZ 1 encI 3 B d.ins.1 d.ins.2.1 d.ins.2.2]
/-- Their rooms. -/
structure CapC (d : Circ) : Prop where
  ins : d.ins.2.2.length ≤ d.ins.2.1 ∧ (d.ins.1 = none → d.ins.2.1 = 0)
  lat : d.lat.2.2.length ≤ d.lat.2.1 ∧ (d.lat.1 = none → d.lat.2.1 = 0)
  outs : d.outs.2.2.length ≤ d.outs.2.1 ∧ (d.outs.1 = none → d.outs.2.1 = 0)
  bads : d.bads.2.2.length ≤ d.bads.2.1 ∧ (d.bads.1 = none → d.bads.2.1 = 0)
  cons : d.cons.2.2.length ≤ d.cons.2.1 ∧ (d.cons.1 = none → d.cons.2.1 = 0)
  gates : d.gates.2.2.length ≤ d.gates.2.1 ∧ (d.gates.1 = none → d.gates.2.1 = 0)
  syms : d.syms.2.2.length ≤ d.syms.2.1 ∧ (d.syms.1 = none → d.syms.2.1 = 0)
theorem rowZ_row {α : Type} {s : Nat} {enc : α → List Value} {el B cap i : Nat} {a : Option Addr} {l : List α} {w : World} {ps : List Piece} (hE : Enc s enc) (hS : Lt.Sep B w ps) (h : ps[i]? = some (prowZ s enc el B a cap l)) : Row s enc w a l := by
  by_cases hl : l = []
  · subst hl; exact Row.nil s enc w a
  · exact (hS.rowZ h hl).row hE
/-- A circuit of one's own. -/
structure OwnC (B : Nat) (w : World) (d : Circ) : Prop where
  sep : Lt.Sep B w (d.ps B)
  cap : CapC d
theorem OwnC.at {B : Nat} {w : World} {d : Circ} (h : OwnC B w d) : CAt w d :=
  ⟨⟨rowZ_row encI_ok h.sep (i := 6) rfl, h.cap.ins.1, h.cap.ins.2⟩, ⟨rowZ_row enc3_ok h.sep (i := 2) rfl, h.cap.lat.1, h.cap.lat.2⟩, ⟨rowZ_row encI_ok h.sep (i := 5) rfl, h.cap.outs.1, h.cap.outs.2⟩, ⟨rowZ_row encI_ok h.sep (i := 4) rfl, h.cap.bads.1, h.cap.bads.2⟩,
    ⟨rowZ_row encI_ok h.sep (i := 3) rfl, h.cap.cons.1, h.cap.cons.2⟩, ⟨rowZ_row enc3_ok h.sep (i := 1) rfl, h.cap.gates.1, h.cap.gates.2⟩, ⟨rowZ_row encY_ok h.sep (i := 0) rfl, h.cap.syms.1, h.cap.syms.2⟩⟩
theorem OwnC.ext {B : Nat} {w w' : World} {d : Circ} (h : OwnC B w d) (hx : Ext w w') : OwnC B w' d := ⟨h.sep.ext hx, h.cap⟩

set_option maxHeartbeats 16000000 in
theorem law11_Own (c : Circ) (w : World) (hC : CAt w c) (hz : SzC c.t 100000) (hz2 : c.t.syms.length ≤ 100000) :
    Lt.Spec Try.prog 11 [c.val] w (fun v w' => Ext w w' ∧ ∃ d : Circ, v = d.val ∧ d.t = c.t ∧ OwnC w.heap.size w' d) := by
  have z1 : c.ins.2.2.length ≤ 100000 := hz.1
  have z2 : c.lat.2.2.length ≤ 100000 := hz.2.1
  have z3 : c.outs.2.2.length ≤ 100000 := hz.2.2.1
  have z4 : c.bads.2.2.length ≤ 100000 := hz.2.2.2.1
  have z5 : c.cons.2.2.length ≤ 100000 := hz.2.2.2.2.1
  have z6 : c.gates.2.2.length ≤ 100000 := hz.2.2.2.2.2
  have z7 : c.syms.2.2.length ≤ 100000 := hz2
  have hS : Lt.Sep w.heap.size w [] := Sep.none'
  have Ri := hC.ins.row
  have Ro := hC.outs.row
  have Rb := hC.bads.row
  have Rn := hC.cons.row
  have Rl := hC.lat.row
  have Rg := hC.gates.row
  have Ry := hC.syms.row
  have ni := hC.ins.none
  have no := hC.outs.none
  have nb := hC.bads.none
  have nn := hC.cons.none
  have nl := hC.lat.none
  have ng := hC.gates.none
  have ny := hC.syms.none
  refine Spec.of _ Try.func11 rfl Try.ntmps11 (by kernel_rfl) rfl ?_
  repeat' (first
    | (apply WL.box; (iterate 3 exact rfl); intro gb w' hb hge hc hx; have hcc := hc; (first | (obtain ⟨h1, h2, h3, _⟩ := hc) | (obtain ⟨h1, h2, _⟩ := hc)); (have hcells := hcc; obtain ⟨y0, y1, y2, y3, y4, y5, y6, y7, y8, _⟩ := hcc; obtain ⟨gc, rfl⟩ : ∃ x, x = gb := ⟨_, rfl⟩; obtain ⟨wc, rfl⟩ : ∃ x, x = w' := ⟨_, rfl⟩; obtain ⟨hxc, rfl⟩ : ∃ x, x = hx := ⟨_, rfl⟩))
    | (apply WL.alloc tOk; (iterate 3 exact rfl); intro gb w' hb hge hx; replace hS := Sep.newCell (Sep.ext hS (by (exact extA))) hx hb hge (by (first | exact Nat.le_refl _ | exact Below.size (by (exact extA)))); (try simp only [List.set_cons_zero, List.set_cons_succ] at hS); (try have hR0 := hS.row (i := 0) rfl); (try have hR1 := hS.row (i := 1) rfl); (try have hR2 := hS.row (i := 2) rfl); (try have hR3 := hS.row (i := 3) rfl); (try have hR4 := hS.row (i := 4) rfl); (try have hC0 := hS.cell (i := 0) rfl); (try have hD0 := (cells_heap hC0).1); (try have hE0 := (cells_heap hC0).2.1); (try have hF0 := (cells_heap hC0).2.2.1); (try have hG0 := (cells_heap hC0).2.2.2.1); (try have hC1 := hS.cell (i := 1) rfl); (try have hD1 := (cells_heap hC1).1); (try have hE1 := (cells_heap hC1).2.1); (try have hF1 := (cells_heap hC1).2.2.1); (try have hG1 := (cells_heap hC1).2.2.2.1); (try have hC2 := hS.cell (i := 2) rfl); (try have hD2 := (cells_heap hC2).1); (try have hE2 := (cells_heap hC2).2.1); (try have hF2 := (cells_heap hC2).2.2.1); (try have hG2 := (cells_heap hC2).2.2.2.1); (try have hC3 := hS.cell (i := 3) rfl); (try have hD3 := (cells_heap hC3).1); (try have hE3 := (cells_heap hC3).2.1); (try have hF3 := (cells_heap hC3).2.2.1); (try have hG3 := (cells_heap hC3).2.2.2.1); (try have hC4 := hS.cell (i := 4) rfl); (try have hD4 := (cells_heap hC4).1); (try have hE4 := (cells_heap hC4).2.1); (try have hF4 := (cells_heap hC4).2.2.1); (try have hG4 := (cells_heap hC4).2.2.2.1); (try have hM0 := hS.map (i := 0) rfl); (try have hM1 := hS.map (i := 1) rfl); (try have hM2 := hS.map (i := 2) rfl); (try have hM3 := hS.map (i := 3) rfl); (try have hM4 := hS.map (i := 4) rfl); (first | (have h_0 := g2; clear h_0) | (obtain ⟨g2, rfl⟩ : ∃ x, x = gb := ⟨_, rfl⟩)))
    | (apply WL.storeB (w0 := wc) tOk; (iterate 4 exact rfl); assumption; (exact extA); (iterate 3 exact rfl); (exact extA); (first | assumption | omega | (focus (apply Nat.le_trans; rotate_left; assumption; exact Below.size (by (exact extA)); done))); intro w' hb hc hX' hU; have hcc := hc; obtain ⟨h1, h2, _⟩ := hc; (first | replace hS := Sep.updCell (i := 0) rfl hU hb hS (by (exact extA)) (by (first | exact Nat.le_refl _ | exact Below.size (by (exact extA)))) | replace hS := Sep.updCell (i := 1) rfl hU hb hS (by (exact extA)) (by (first | exact Nat.le_refl _ | exact Below.size (by (exact extA)))) | replace hS := Sep.updCell (i := 2) rfl hU hb hS (by (exact extA)) (by (first | exact Nat.le_refl _ | exact Below.size (by (exact extA)))) | replace hS := Sep.updCell (i := 3) rfl hU hb hS (by (exact extA)) (by (first | exact Nat.le_refl _ | exact Below.size (by (exact extA))))); (try simp only [List.set_cons_zero, List.set_cons_succ] at hS); (try have hR0 := hS.row (i := 0) rfl); (try have hR1 := hS.row (i := 1) rfl); (try have hR2 := hS.row (i := 2) rfl); (try have hR3 := hS.row (i := 3) rfl); (try have hR4 := hS.row (i := 4) rfl); (try have hC0 := hS.cell (i := 0) rfl); (try have hD0 := (cells_heap hC0).1); (try have hE0 := (cells_heap hC0).2.1); (try have hF0 := (cells_heap hC0).2.2.1); (try have hG0 := (cells_heap hC0).2.2.2.1); (try have hC1 := hS.cell (i := 1) rfl); (try have hD1 := (cells_heap hC1).1); (try have hE1 := (cells_heap hC1).2.1); (try have hF1 := (cells_heap hC1).2.2.1); (try have hG1 := (cells_heap hC1).2.2.2.1); (try have hC2 := hS.cell (i := 2) rfl); (try have hD2 := (cells_heap hC2).1); (try have hE2 := (cells_heap hC2).2.1); (try have hF2 := (cells_heap hC2).2.2.1); (try have hG2 := (cells_heap hC2).2.2.2.1); (try have hC3 := hS.cell (i := 3) rfl); (try have hD3 := (cells_heap hC3).1); (try have hE3 := (cells_heap hC3).2.1); (try have hF3 := (cells_heap hC3).2.2.1); (try have hG3 := (cells_heap hC3).2.2.2.1); (try have hC4 := hS.cell (i := 4) rfl); (try have hD4 := (cells_heap hC4).1); (try have hE4 := (cells_heap hC4).2.1); (try have hF4 := (cells_heap hC4).2.2.1); (try have hG4 := (cells_heap hC4).2.2.2.1); (try have hM0 := hS.map (i := 0) rfl); (try have hM1 := hS.map (i := 1) rfl); (try have hM2 := hS.map (i := 2) rfl); (try have hM3 := hS.map (i := 3) rfl); (try have hM4 := hS.map (i := 4) rfl))
    | (show WL _ _ _ _ _ _ _; first | apply WL.nil | (refine WL.au (k := ?_)))
    | (show Z _ _ _ _ _; apply Z.then_normal)
    | (show W _ _ _ _ _ _; first | apply W.seq | apply W.region)
    | fail)
  replace hS : Lt.Sep w.heap.size w' [pcell gb c.vals.toArray 27, pcell g2 (Value.cells (.agg #[.int .i64 0, .slice none 0 0, .slice none 0 0, .slice none 0 0, .slice none 0 0, .slice none 0 0, .slice none 0 0, .slice none 0 0, .string ⟨#[]⟩])) 27] := hS
  (try simp only [List.set_cons_zero, List.set_cons_succ] at hS); (try have hR0 := hS.row (i := 0) rfl); (try have hR1 := hS.row (i := 1) rfl); (try have hR2 := hS.row (i := 2) rfl); (try have hR3 := hS.row (i := 3) rfl); (try have hR4 := hS.row (i := 4) rfl); (try have hC0 := hS.cell (i := 0) rfl); (try have hD0 := (cells_heap hC0).1); (try have hE0 := (cells_heap hC0).2.1); (try have hF0 := (cells_heap hC0).2.2.1); (try have hG0 := (cells_heap hC0).2.2.2.1); (try have hC1 := hS.cell (i := 1) rfl); (try have hD1 := (cells_heap hC1).1); (try have hE1 := (cells_heap hC1).2.1); (try have hF1 := (cells_heap hC1).2.2.1); (try have hG1 := (cells_heap hC1).2.2.2.1); (try have hC2 := hS.cell (i := 2) rfl); (try have hD2 := (cells_heap hC2).1); (try have hE2 := (cells_heap hC2).2.1); (try have hF2 := (cells_heap hC2).2.2.1); (try have hG2 := (cells_heap hC2).2.2.2.1); (try have hC3 := hS.cell (i := 3) rfl); (try have hD3 := (cells_heap hC3).1); (try have hE3 := (cells_heap hC3).2.1); (try have hF3 := (cells_heap hC3).2.2.1); (try have hG3 := (cells_heap hC3).2.2.2.1); (try have hC4 := hS.cell (i := 4) rfl); (try have hD4 := (cells_heap hC4).1); (try have hE4 := (cells_heap hC4).2.1); (try have hF4 := (cells_heap hC4).2.2.1); (try have hG4 := (cells_heap hC4).2.2.2.1); (try have hM0 := hS.map (i := 0) rfl); (try have hM1 := hS.map (i := 1) rfl); (try have hM2 := hS.map (i := 2) rfl); (try have hM3 := hS.map (i := 3) rfl); (try have hM4 := hS.map (i := 4) rfl)
  obtain ⟨w1, rfl⟩ : ∃ x, x = w' := ⟨_, rfl⟩
  have hX1 : Ext wc w1 := (by (exact extA))
  have hX2 : Ext w w1 := (by (exact extA))
  have hw1 : w.heap.size ≤ w1.heap.size := Below.size hX2
  repeat' (first
    | (show W _ _ (.region 2 _ _) _ _ _; apply W.regionI 17 [prLit 3 w1.heap.size, .is (.pointer (some ⟨gc, 0 + 1, none⟩)), .is (rowVal c.ins), prRow 1 encI 3 w1.heap.size c.ins.2.2, prLit 3 w1.heap.size, .is (.pointer (some ⟨gc, 0 + 1 + 1 + 1, none⟩)), .is (rowVal c.outs), prRow 1 encI 3 w1.heap.size c.outs.2.2, prLit 3 w1.heap.size, .is (.pointer (some ⟨gc, 0 + 1 + 1 + 1 + 1, none⟩)), .is (rowVal c.bads), prRow 1 encI 3 w1.heap.size c.bads.2.2, prLit 3 w1.heap.size, .is (.pointer (some ⟨gc, 0 + 1 + 1 + 1 + 1 + 1, none⟩)), .is (rowVal c.cons), prRow 1 encI 3 w1.heap.size c.cons.2.2, .is (.pointer (some ⟨gb, 0 + 1, none⟩))] tMix; kernel_rfl; exact rfl; kernel_rfl; kernel_rfl; exact rfl; exact rfl)
    | (show OBL _ _ _ _ _ _ _ _; apply OBL.nil)
    | (show OBL _ _ _ _ _ _ 0 _; apply OBL.cons (ds := []); (iterate 3 exact rfl); kernel_rfl; intro w8 hw8 rest8)
    | (show OBL _ _ _ _ _ _ 1 _; apply OBL.cons (ds := []); (iterate 3 exact rfl); kernel_rfl; intro w8 hw8 rest8)
    | (show OBL _ _ _ _ _ _ 2 _; apply OBL.cons (ds := [1]); (iterate 3 exact rfl); kernel_rfl; intro w8 hw8 rest8)
    | (show OBL _ _ _ _ _ _ 3 _; apply OBL.cons (ds := [0, 2]); (iterate 3 exact rfl); kernel_rfl; intro w8 hw8 rest8)
    | (show OBL _ _ _ _ _ _ 4 _; apply OBL.cons (ds := []); (iterate 3 exact rfl); kernel_rfl; intro w8 hw8 rest8)
    | (show OBL _ _ _ _ _ _ 5 _; apply OBL.cons (ds := []); (iterate 3 exact rfl); kernel_rfl; intro w8 hw8 rest8)
    | (show OBL _ _ _ _ _ _ 6 _; apply OBL.cons (ds := [5]); (iterate 3 exact rfl); kernel_rfl; intro w8 hw8 rest8)
    | (show OBL _ _ _ _ _ _ 7 _; apply OBL.cons (ds := [4, 6, 3]); (iterate 3 exact rfl); kernel_rfl; intro w8 hw8 rest8)
    | (show OBL _ _ _ _ _ _ 8 _; apply OBL.cons (ds := []); (iterate 3 exact rfl); kernel_rfl; intro w8 hw8 rest8)
    | (show OBL _ _ _ _ _ _ 9 _; apply OBL.cons (ds := []); (iterate 3 exact rfl); kernel_rfl; intro w8 hw8 rest8)
    | (show OBL _ _ _ _ _ _ 10 _; apply OBL.cons (ds := [9]); (iterate 3 exact rfl); kernel_rfl; intro w8 hw8 rest8)
    | (show OBL _ _ _ _ _ _ 11 _; apply OBL.cons (ds := [8, 10, 7]); (iterate 3 exact rfl); kernel_rfl; intro w8 hw8 rest8)
    | (show OBL _ _ _ _ _ _ 12 _; apply OBL.cons (ds := []); (iterate 3 exact rfl); kernel_rfl; intro w8 hw8 rest8)
    | (show OBL _ _ _ _ _ _ 13 _; apply OBL.cons (ds := []); (iterate 3 exact rfl); kernel_rfl; intro w8 hw8 rest8)
    | (show OBL _ _ _ _ _ _ 14 _; apply OBL.cons (ds := [13]); (iterate 3 exact rfl); kernel_rfl; intro w8 hw8 rest8)
    | (show OBL _ _ _ _ _ _ 15 _; apply OBL.cons (ds := [12, 14, 11]); (iterate 3 exact rfl); kernel_rfl; intro w8 hw8 rest8)
    | (show OBL _ _ _ _ _ _ 16 _; apply OBL.cons (ds := [0, 1, 2, 3]); (iterate 3 exact rfl); kernel_rfl; intro w8 hw8 rest8)
    | (show NO _ _ _ _ _ _ _ _ _ _; first | apply NO.nil | (apply NO.is; exact rfl; exact rfl) | (apply NO.ex; exact rfl; exact rfl; (first | (rintro _ ⟨gl, rfl, hlb, hlge⟩) | (rintro _ ⟨ar, cr, rfl, hOr⟩))))
    | (intro w8 hw8; show NF _ _ _ _ _ _ _ _ _)
    | (show NF _ _ _ _ _ _ _ _ _; first | (apply NF.nilT; intro hap; replace hS := Sep.news [prowZ 1 encI 3 w.heap.size ar2_15 cr2_15 c.cons.2.2, prowZ 1 encI 3 w.heap.size ar2_11 cr2_11 c.bads.2.2, prowZ 1 encI 3 w.heap.size ar2_7 cr2_7 c.outs.2.2, prowZ 1 encI 3 w.heap.size ar2_3 cr2_3 c.ins.2.2] hS hw8 (by rintro q hq; simp only [List.mem_cons, List.not_mem_nil, or_false] at hq; rcases hq with rfl | rfl | rfl | rfl <;> exact prowZ_new (by assumption) hw1) (apartS hap) hw1; simp only [List.cons_append, List.nil_append] at hS; (try simp only [List.set_cons_zero, List.set_cons_succ] at hS); (try have hR0 := hS.row (i := 0) rfl); (try have hR1 := hS.row (i := 1) rfl); (try have hR2 := hS.row (i := 2) rfl); (try have hR3 := hS.row (i := 3) rfl); (try have hR4 := hS.row (i := 4) rfl); (try have hC0 := hS.cell (i := 0) rfl); (try have hD0 := (cells_heap hC0).1); (try have hE0 := (cells_heap hC0).2.1); (try have hF0 := (cells_heap hC0).2.2.1); (try have hG0 := (cells_heap hC0).2.2.2.1); (try have hC1 := hS.cell (i := 1) rfl); (try have hD1 := (cells_heap hC1).1); (try have hE1 := (cells_heap hC1).2.1); (try have hF1 := (cells_heap hC1).2.2.1); (try have hG1 := (cells_heap hC1).2.2.2.1); (try have hC2 := hS.cell (i := 2) rfl); (try have hD2 := (cells_heap hC2).1); (try have hE2 := (cells_heap hC2).2.1); (try have hF2 := (cells_heap hC2).2.2.1); (try have hG2 := (cells_heap hC2).2.2.2.1); (try have hC3 := hS.cell (i := 3) rfl); (try have hD3 := (cells_heap hC3).1); (try have hE3 := (cells_heap hC3).2.1); (try have hF3 := (cells_heap hC3).2.2.1); (try have hG3 := (cells_heap hC3).2.2.2.1); (try have hC4 := hS.cell (i := 4) rfl); (try have hD4 := (cells_heap hC4).1); (try have hE4 := (cells_heap hC4).2.1); (try have hF4 := (cells_heap hC4).2.2.1); (try have hG4 := (cells_heap hC4).2.2.2.1); (try have hM0 := hS.map (i := 0) rfl); (try have hM1 := hS.map (i := 1) rfl); (try have hM2 := hS.map (i := 2) rfl); (try have hM3 := hS.map (i := 3) rfl); (try have hM4 := hS.map (i := 4) rfl)) | (apply NF.is; exact rfl; exact rfl))
    | (show NF _ _ _ _ _ _ (0 :: _) _ _; apply NF.ex; exact rfl; exact rfl; rintro _ ⟨gl2_0, rfl, hlb2_0, hlge2_0⟩)
    | (show NF _ _ _ _ _ _ (3 :: _) _ _; apply NF.ex; exact rfl; exact rfl; rintro _ ⟨ar2_3, cr2_3, rfl, hOr2_3⟩)
    | (show NF _ _ _ _ _ _ (4 :: _) _ _; apply NF.ex; exact rfl; exact rfl; rintro _ ⟨gl2_4, rfl, hlb2_4, hlge2_4⟩)
    | (show NF _ _ _ _ _ _ (7 :: _) _ _; apply NF.ex; exact rfl; exact rfl; rintro _ ⟨ar2_7, cr2_7, rfl, hOr2_7⟩)
    | (show NF _ _ _ _ _ _ (8 :: _) _ _; apply NF.ex; exact rfl; exact rfl; rintro _ ⟨gl2_8, rfl, hlb2_8, hlge2_8⟩)
    | (show NF _ _ _ _ _ _ (11 :: _) _ _; apply NF.ex; exact rfl; exact rfl; rintro _ ⟨ar2_11, cr2_11, rfl, hOr2_11⟩)
    | (show NF _ _ _ _ _ _ (12 :: _) _ _; apply NF.ex; exact rfl; exact rfl; rintro _ ⟨gl2_12, rfl, hlb2_12, hlge2_12⟩)
    | (show NF _ _ _ _ _ _ (15 :: _) _ _; apply NF.ex; exact rfl; exact rfl; rintro _ ⟨ar2_15, cr2_15, rfl, hOr2_15⟩)
    | (show Z _ _ _ _ _; first | (apply Z.invIs; (exact extA)) | (apply Z.invLit; (exact extA); assumption; first | omega | (refine Nat.le_trans ?_ (by assumption); exact Below.size (by (exact extA)))) | (apply Z.invRow; (exact extA); assumption; assumption))
    | (apply WL.lit tOk; (iterate 6 exact rfl); (first | exact rfl | kernel_rfl | (simp [Instr.fill, catCells]; done)); exact rfl; intro gb w' hb hge hc hx)
    | (apply WL.append0 tOk encI_ok; (iterate 10 exact rfl); assumption; (first | assumption | omega); (exact extA); assumption; (exact extA); (first | exact rfl | (focus (simp only [List.length_set]; done)) | (focus (simp; done)) | (focus (simp [*]; done)) | omega | (focus (simp only [List.length_set]; omega))); (first | assumption | (intro h; cases h)); (first | omega | (simp; omega)); intro a' cap' w' hO hx hf0)
    | (apply WL.storeF (w0 := wc) tOk; (iterate 4 exact rfl); assumption; (exact extA); (iterate 4 exact rfl); (exact extA); (first | assumption | omega | (focus (apply Nat.le_trans; rotate_left; assumption; exact Below.size (by (exact extA))))); intro w' hb hX' hU; replace hS := Sep.updCell (i := 4) rfl hU hb hS (by (exact extA)) (by (first | exact Nat.le_refl _ | exact Below.size (by (exact extA)))); (try simp only [List.set_cons_zero, List.set_cons_succ] at hS); (try have hR0 := hS.row (i := 0) rfl); (try have hR1 := hS.row (i := 1) rfl); (try have hR2 := hS.row (i := 2) rfl); (try have hR3 := hS.row (i := 3) rfl); (try have hR4 := hS.row (i := 4) rfl); (try have hC0 := hS.cell (i := 0) rfl); (try have hD0 := (cells_heap hC0).1); (try have hE0 := (cells_heap hC0).2.1); (try have hF0 := (cells_heap hC0).2.2.1); (try have hG0 := (cells_heap hC0).2.2.2.1); (try have hC1 := hS.cell (i := 1) rfl); (try have hD1 := (cells_heap hC1).1); (try have hE1 := (cells_heap hC1).2.1); (try have hF1 := (cells_heap hC1).2.2.1); (try have hG1 := (cells_heap hC1).2.2.2.1); (try have hC2 := hS.cell (i := 2) rfl); (try have hD2 := (cells_heap hC2).1); (try have hE2 := (cells_heap hC2).2.1); (try have hF2 := (cells_heap hC2).2.2.1); (try have hG2 := (cells_heap hC2).2.2.2.1); (try have hC3 := hS.cell (i := 3) rfl); (try have hD3 := (cells_heap hC3).1); (try have hE3 := (cells_heap hC3).2.1); (try have hF3 := (cells_heap hC3).2.2.1); (try have hG3 := (cells_heap hC3).2.2.2.1); (try have hC4 := hS.cell (i := 4) rfl); (try have hD4 := (cells_heap hC4).1); (try have hE4 := (cells_heap hC4).2.1); (try have hF4 := (cells_heap hC4).2.2.1); (try have hG4 := (cells_heap hC4).2.2.2.1); (try have hM0 := hS.map (i := 0) rfl); (try have hM1 := hS.map (i := 1) rfl); (try have hM2 := hS.map (i := 2) rfl); (try have hM3 := hS.map (i := 3) rfl); (try have hM4 := hS.map (i := 4) rfl))
    | (show WL _ _ _ _ _ _ _; first | apply WL.nil | (refine WL.au (k := ?_)))
    | (show Z _ _ _ _ _; apply Z.then_normal)
    | (show W _ _ _ _ _ _; apply W.seq)
    | fail)
  obtain ⟨w2, rfl⟩ : ∃ x, x = w' := ⟨_, rfl⟩
  have hX3 : Ext wc w2 := (by (exact extA))
  have hw2 : w.heap.size ≤ w2.heap.size := Nat.le_trans (Below.size hxc) (Below.size hX3)
  repeat' (first
    | (show W _ _ (.region 3 _ _) _ _ _; apply W.regionI 13 [prLit 87 w2.heap.size, .is (.pointer (some ⟨gc, 0 + 1 + 1, none⟩)), .is (rowVal c.lat), prRow 3 enc3 87 w2.heap.size c.lat.2.2, prLit 89 w2.heap.size, .is (.pointer (some ⟨gc, 0 + 1 + 1 + 1 + 1 + 1 + 1, none⟩)), .is (rowVal c.gates), prRow 3 enc3 89 w2.heap.size c.gates.2.2, prLit 150 w2.heap.size, .is (.pointer (some ⟨gc, 0 + 1 + 1 + 1 + 1 + 1 + 1 + 1, none⟩)), .is (rowVal c.syms), prRow 3 encY 150 w2.heap.size c.syms.2.2, .is (.pointer (some ⟨gb, 0 + 2, none⟩))] tMix; kernel_rfl; exact rfl; kernel_rfl; kernel_rfl; exact rfl; exact rfl)
    | (show OBL _ _ _ _ _ _ _ _; apply OBL.nil)
    | (show OBL _ _ _ _ _ _ 0 _; apply OBL.cons (ds := []); (iterate 3 exact rfl); kernel_rfl; intro w8 hw8 rest8)
    | (show OBL _ _ _ _ _ _ 1 _; apply OBL.cons (ds := []); (iterate 3 exact rfl); kernel_rfl; intro w8 hw8 rest8)
    | (show OBL _ _ _ _ _ _ 2 _; apply OBL.cons (ds := [1]); (iterate 3 exact rfl); kernel_rfl; intro w8 hw8 rest8)
    | (show OBL _ _ _ _ _ _ 3 _; apply OBL.cons (ds := [0, 2]); (iterate 3 exact rfl); kernel_rfl; intro w8 hw8 rest8)
    | (show OBL _ _ _ _ _ _ 4 _; apply OBL.cons (ds := []); (iterate 3 exact rfl); kernel_rfl; intro w8 hw8 rest8)
    | (show OBL _ _ _ _ _ _ 5 _; apply OBL.cons (ds := []); (iterate 3 exact rfl); kernel_rfl; intro w8 hw8 rest8)
    | (show OBL _ _ _ _ _ _ 6 _; apply OBL.cons (ds := [5]); (iterate 3 exact rfl); kernel_rfl; intro w8 hw8 rest8)
    | (show OBL _ _ _ _ _ _ 7 _; apply OBL.cons (ds := [4, 6, 3]); (iterate 3 exact rfl); kernel_rfl; intro w8 hw8 rest8)
    | (show OBL _ _ _ _ _ _ 8 _; apply OBL.cons (ds := []); (iterate 3 exact rfl); kernel_rfl; intro w8 hw8 rest8)
    | (show OBL _ _ _ _ _ _ 9 _; apply OBL.cons (ds := []); (iterate 3 exact rfl); kernel_rfl; intro w8 hw8 rest8)
    | (show OBL _ _ _ _ _ _ 10 _; apply OBL.cons (ds := [9]); (iterate 3 exact rfl); kernel_rfl; intro w8 hw8 rest8)
    | (show OBL _ _ _ _ _ _ 11 _; apply OBL.cons (ds := [8, 10, 7]); (iterate 3 exact rfl); kernel_rfl; intro w8 hw8 rest8)
    | (show OBL _ _ _ _ _ _ 12 _; apply OBL.cons (ds := [0, 1, 2, 3]); (iterate 3 exact rfl); kernel_rfl; intro w8 hw8 rest8)
    | (show NO _ _ _ _ _ _ _ _ _ _; first | apply NO.nil | (apply NO.is; exact rfl; exact rfl) | (apply NO.ex; exact rfl; exact rfl; (first | (rintro _ ⟨gl, rfl, hlb, hlge⟩) | (rintro _ ⟨ar, cr, rfl, hOr⟩))))
    | (intro w8 hw8; show NF _ _ _ _ _ _ _ _ _)
    | (show NF _ _ _ _ _ _ _ _ _; first | (apply NF.nilT; intro hap; replace hS := Sep.news [prowZ 3 encY 150 w.heap.size ar3_11 cr3_11 c.syms.2.2, prowZ 3 enc3 89 w.heap.size ar3_7 cr3_7 c.gates.2.2, prowZ 3 enc3 87 w.heap.size ar3_3 cr3_3 c.lat.2.2] hS hw8 (by rintro q hq; simp only [List.mem_cons, List.not_mem_nil, or_false] at hq; rcases hq with rfl | rfl | rfl <;> exact prowZ_new (by assumption) hw2) (apartS hap) hw2; simp only [List.cons_append, List.nil_append] at hS; (try simp only [List.set_cons_zero, List.set_cons_succ] at hS); (try have hR0 := hS.row (i := 0) rfl); (try have hR1 := hS.row (i := 1) rfl); (try have hR2 := hS.row (i := 2) rfl); (try have hR3 := hS.row (i := 3) rfl); (try have hR4 := hS.row (i := 4) rfl); (try have hC0 := hS.cell (i := 0) rfl); (try have hD0 := (cells_heap hC0).1); (try have hE0 := (cells_heap hC0).2.1); (try have hF0 := (cells_heap hC0).2.2.1); (try have hG0 := (cells_heap hC0).2.2.2.1); (try have hC1 := hS.cell (i := 1) rfl); (try have hD1 := (cells_heap hC1).1); (try have hE1 := (cells_heap hC1).2.1); (try have hF1 := (cells_heap hC1).2.2.1); (try have hG1 := (cells_heap hC1).2.2.2.1); (try have hC2 := hS.cell (i := 2) rfl); (try have hD2 := (cells_heap hC2).1); (try have hE2 := (cells_heap hC2).2.1); (try have hF2 := (cells_heap hC2).2.2.1); (try have hG2 := (cells_heap hC2).2.2.2.1); (try have hC3 := hS.cell (i := 3) rfl); (try have hD3 := (cells_heap hC3).1); (try have hE3 := (cells_heap hC3).2.1); (try have hF3 := (cells_heap hC3).2.2.1); (try have hG3 := (cells_heap hC3).2.2.2.1); (try have hC4 := hS.cell (i := 4) rfl); (try have hD4 := (cells_heap hC4).1); (try have hE4 := (cells_heap hC4).2.1); (try have hF4 := (cells_heap hC4).2.2.1); (try have hG4 := (cells_heap hC4).2.2.2.1); (try have hM0 := hS.map (i := 0) rfl); (try have hM1 := hS.map (i := 1) rfl); (try have hM2 := hS.map (i := 2) rfl); (try have hM3 := hS.map (i := 3) rfl); (try have hM4 := hS.map (i := 4) rfl)) | (apply NF.is; exact rfl; exact rfl))
    | (show NF _ _ _ _ _ _ (0 :: _) _ _; apply NF.ex; exact rfl; exact rfl; rintro _ ⟨gl3_0, rfl, hlb3_0, hlge3_0⟩)
    | (show NF _ _ _ _ _ _ (3 :: _) _ _; apply NF.ex; exact rfl; exact rfl; rintro _ ⟨ar3_3, cr3_3, rfl, hOr3_3⟩)
    | (show NF _ _ _ _ _ _ (4 :: _) _ _; apply NF.ex; exact rfl; exact rfl; rintro _ ⟨gl3_4, rfl, hlb3_4, hlge3_4⟩)
    | (show NF _ _ _ _ _ _ (7 :: _) _ _; apply NF.ex; exact rfl; exact rfl; rintro _ ⟨ar3_7, cr3_7, rfl, hOr3_7⟩)
    | (show NF _ _ _ _ _ _ (8 :: _) _ _; apply NF.ex; exact rfl; exact rfl; rintro _ ⟨gl3_8, rfl, hlb3_8, hlge3_8⟩)
    | (show NF _ _ _ _ _ _ (11 :: _) _ _; apply NF.ex; exact rfl; exact rfl; rintro _ ⟨ar3_11, cr3_11, rfl, hOr3_11⟩)
    | (show Z _ _ _ _ _; first | (apply Z.invIs; (exact extA)) | (apply Z.invLit; (exact extA); assumption; first | omega | (refine Nat.le_trans ?_ (by assumption); exact Below.size (by (exact extA)))) | (apply Z.invRow; (exact extA); assumption; assumption))
    | (apply WL.lit tOk; (iterate 6 exact rfl); (first | exact rfl | kernel_rfl | (simp [Instr.fill, catCells]; done)); exact rfl; intro gb w' hb hge hc hx)
    | (apply WL.append0 tOk enc3_ok; (iterate 10 exact rfl); assumption; (first | assumption | omega); (exact extA); assumption; (exact extA); (first | exact rfl | (focus (simp only [List.length_set]; done)) | (focus (simp; done)) | (focus (simp [*]; done)) | omega | (focus (simp only [List.length_set]; omega))); (first | assumption | (intro h; cases h)); (first | omega | (simp; omega)); intro a' cap' w' hO hx hf0)
    | (apply WL.append0 tOk encY_ok; (iterate 10 exact rfl); assumption; (first | assumption | omega); (exact extA); assumption; (exact extA); (first | exact rfl | (focus (simp only [List.length_set]; done)) | (focus (simp; done)) | (focus (simp [*]; done)) | omega | (focus (simp only [List.length_set]; omega))); (first | assumption | (intro h; cases h)); (first | omega | (simp; omega)); intro a' cap' w' hO hx hf0)
    | (apply WL.storeF (w0 := wc) tOk; (iterate 4 exact rfl); assumption; (exact extA); (iterate 4 exact rfl); (exact extA); (first | assumption | omega | (focus (apply Nat.le_trans; rotate_left; assumption; exact Below.size (by (exact extA))))); intro w' hb hX' hU; replace hS := Sep.updCell (i := 7) rfl hU hb hS (by (exact extA)) (by (first | exact Nat.le_refl _ | exact Below.size (by (exact extA)))); (try simp only [List.set_cons_zero, List.set_cons_succ] at hS); (try have hR0 := hS.row (i := 0) rfl); (try have hR1 := hS.row (i := 1) rfl); (try have hR2 := hS.row (i := 2) rfl); (try have hR3 := hS.row (i := 3) rfl); (try have hR4 := hS.row (i := 4) rfl); (try have hC0 := hS.cell (i := 0) rfl); (try have hD0 := (cells_heap hC0).1); (try have hE0 := (cells_heap hC0).2.1); (try have hF0 := (cells_heap hC0).2.2.1); (try have hG0 := (cells_heap hC0).2.2.2.1); (try have hC1 := hS.cell (i := 1) rfl); (try have hD1 := (cells_heap hC1).1); (try have hE1 := (cells_heap hC1).2.1); (try have hF1 := (cells_heap hC1).2.2.1); (try have hG1 := (cells_heap hC1).2.2.2.1); (try have hC2 := hS.cell (i := 2) rfl); (try have hD2 := (cells_heap hC2).1); (try have hE2 := (cells_heap hC2).2.1); (try have hF2 := (cells_heap hC2).2.2.1); (try have hG2 := (cells_heap hC2).2.2.2.1); (try have hC3 := hS.cell (i := 3) rfl); (try have hD3 := (cells_heap hC3).1); (try have hE3 := (cells_heap hC3).2.1); (try have hF3 := (cells_heap hC3).2.2.1); (try have hG3 := (cells_heap hC3).2.2.2.1); (try have hC4 := hS.cell (i := 4) rfl); (try have hD4 := (cells_heap hC4).1); (try have hE4 := (cells_heap hC4).2.1); (try have hF4 := (cells_heap hC4).2.2.1); (try have hG4 := (cells_heap hC4).2.2.2.1); (try have hM0 := hS.map (i := 0) rfl); (try have hM1 := hS.map (i := 1) rfl); (try have hM2 := hS.map (i := 2) rfl); (try have hM3 := hS.map (i := 3) rfl); (try have hM4 := hS.map (i := 4) rfl))
    | (show WL _ _ _ _ _ _ _; first | apply WL.nil | (refine WL.au (k := ?_)))
    | (show Z _ _ _ _ _; apply Z.then_normal)
    | (show W _ _ _ _ _ _; first | apply W.seq | apply W.region)
    | fail)
  obtain ⟨d, hd⟩ : ∃ d : Circ, d = ⟨c.max, (ar2_3, cr2_3, c.ins.2.2), (ar3_3, cr3_3, c.lat.2.2), (ar2_7, cr2_7, c.outs.2.2), (ar2_11, cr2_11, c.bads.2.2), (ar2_15, cr2_15, c.cons.2.2), (ar3_7, cr3_7, c.gates.2.2), (ar3_11, cr3_11, c.syms.2.2), c.com⟩ := ⟨_, rfl⟩
  have hS' : Lt.Sep w.heap.size w' (d.ps w.heap.size ++ [pcell gb d.vals.toArray 27, pcell g2 (Value.cells (.agg #[.int .i64 0, .slice none 0 0, .slice none 0 0, .slice none 0 0, .slice none 0 0, .slice none 0 0, .slice none 0 0, .slice none 0 0, .string ⟨#[]⟩])) 27]) := by rw [hd]; exact hS
  have hcap : CapC d := by
    rw [hd]
    exact ⟨⟨hOr2_3.capLe, hOr2_3.noneCap⟩, ⟨hOr3_3.capLe, hOr3_3.noneCap⟩, ⟨hOr2_7.capLe, hOr2_7.noneCap⟩, ⟨hOr2_11.capLe, hOr2_11.noneCap⟩, ⟨hOr2_15.capLe, hOr2_15.noneCap⟩, ⟨hOr3_7.capLe, hOr3_7.noneCap⟩, ⟨hOr3_11.capLe, hOr3_11.noneCap⟩⟩
  have hdt : d.t = c.t := by rw [hd]
  have hcd : Cells w' gb 0 d.vals := cells_heap (hS'.cell (i := 7) rfl)
  have hc8 := hS'.cell (i := 8) rfl
  clear hd
  obtain ⟨w3, rfl⟩ : ∃ x, x = w' := ⟨_, rfl⟩
  repeat' (first
    | (apply WL.storeB (w0 := wc) tOk; (iterate 4 exact rfl); assumption; (exact extA); (iterate 3 exact rfl); (exact extA); (first | assumption | omega | (focus (apply Nat.le_trans; rotate_left; assumption; exact Below.size (by (exact extA)); done))); intro w' hb hc hX' hU; have hcc := hc; obtain ⟨h1, h2, _⟩ := hc)
    | (show WL _ _ _ _ _ _ _; first | apply WL.nil | (refine WL.au (k := ?_)))
    | (show Z _ _ _ _ _; apply Z.then_normal)
    | (show W _ _ _ _ _ _; apply W.ret)
    | fail)
  exact Z.bodyC tOk Try.results11 rfl rfl rfl rfl (cells_heap hb) fun m => ⟨hxc.trans (Ext.at (by (exact extA)) m), d, rfl, hdt, ⟨((hS'.updCell (i := 8) rfl hU hb (Ext.refl _) (Nat.le_trans (Below.size hxc) (Below.size (by (exact extA))))).takeN 7).ext ((Ext.refl _).at m), hcap⟩⟩
end Go.Proofs.Yteidpnpbfagaeaa
namespace Go.Lt
open Go.RowKit
set_option linter.unusedVariables false

theorem Row.keep {α : Type} {s : Nat} {enc : α → List Value} {w w' : World} {a : Option Addr} {l : List α} (h : Row s enc w a l) (hb : ∀ k, blk a = some k → w'.heap[k]? = w.heap[k]?) : Row s enc w' a l := by
  refine ⟨h.len, fun i x hx => ?_⟩
  obtain ⟨b, off, h1, h2⟩ := h.elem i x hx
  refine ⟨b, off, h1, ?_⟩
  have e := hb b (by rw [h1]; rfl)
  have key : ∀ (L : List Value) (o : Nat), Cells w b o L → Cells w' b o L := by
    intro L
    induction L with
    | nil => intro o _; trivial
    | cons u r ih =>
      intro o hc
      refine ⟨?_, ih _ hc.2⟩
      have h3 := hc.1
      simp only [World.cell?] at h3 ⊢
      rw [e]; exact h3
  exact key _ _ h2
theorem get_app {α : Type} {l r : List α} {i : Nat} {x : α} (h : (l ++ r)[i]? = some x) : l[i]? = some x ∨ (l.length ≤ i ∧ r[i - l.length]? = some x) := by
  by_cases hi : i < l.length
  · rw [List.getElem?_append_left hi] at h; exact .inl h
  · rw [List.getElem?_append_right (by omega)] at h; exact .inr ⟨by omega, h⟩
theorem OwnRR.keep {α : Type} {s : Nat} {enc : α → List Value} {el elO B : Nat} {w w' : World} {a : Option Addr} {cap : Nat} {rs : List (RowV α)} (h : OwnRR s enc el elO B w a cap rs) (hb : ∀ k, B ≤ k → k < w.heap.size → w'.heap[k]? = w.heap[k]?) : OwnRR s enc el elO B w' a cap rs :=
  ⟨h.outer.keep fun k hk => hb k (h.outer.blk_lt k hk).1 (h.outer.blk_lt k hk).2, fun i r hr => (h.inner i r hr).keep fun k hk => hb k ((h.inner i r hr).blk_lt k hk).1 ((h.inner i r hr).blk_lt k hk).2, h.apartO, h.apart⟩
end Go.Lt
namespace Go.Proofs.Yteidpnpbfagaeaa
open Go Go.Lt Go.RowKit
set_option linter.unusedVariables false
set_option linter.unusedSimpArgs false
set_option maxRecDepth 20000

theorem Row.blk_lt {α : Type} {s : Nat} {enc : α → List Value} {w : World} {a : Option Addr} {l : List α} (hE : Enc s enc) (h : Row s enc w a l) (hl : l ≠ []) : ∃ k, blk a = some k ∧ k < w.heap.size := by
  cases l with
  | nil => exact absurd rfl hl
  | cons x r =>
    obtain ⟨b, off, h1, h2⟩ := h.elem 0 x rfl
    refine ⟨b, by rw [h1]; rfl, ?_⟩
    have hp := hE.pos
    have hxl := hE.len x
    cases hx : enc x with
    | nil => rw [hx] at hxl; simp at hxl; omega
    | cons u q => rw [hx] at h2; exact World.block_lt_of_cell? _ _ h2.1
/-- A row that is not in a block that changes. -/
theorem Row.but {α : Type} {s : Nat} {enc : α → List Value} {w w' : World} {a : Option Addr} {l : List α} {b : Option Nat} (hE : Enc s enc) (h : Row s enc w a l) (hb : But w b w') (hne : l ≠ [] → ∀ k, blk a = some k → b ≠ some k) : Row s enc w' a l := by
  by_cases hl : l = []
  · subst hl; exact Row.nil s enc w' a
  · obtain ⟨k, hk, hlt⟩ := Row.blk_lt hE h hl
    exact h.keep fun q hq => by rw [hk] at hq; cases hq; exact hb.block k hlt (fun h => hne hl k hk h.symm)
structure AllI (B bk : Nat) (w : World) (a : Option Addr) (cp : Nat) (rs : List (RowV Int)) : Prop where
  own : Own 1 encRow 22 B w a cp rs
  rows : ∀ r ∈ rs, Row 1 encI w r.1 r.2.2
  ne : ∀ r ∈ rs, r.2.2 ≠ [] → ∀ k, blk r.1 = some k → blk a ≠ some k ∧ k ≠ bk
theorem AllI.but {B bk cp : Nat} {w w' : World} {a : Option Addr} {rs : List (RowV Int)} (h : AllI B bk w a cp rs) (hb : But w (some bk) w') (hB : bk < B) : AllI B bk w' a cp rs :=
  ⟨h.own.keep fun k hk => hb.block k (h.own.blk_lt k hk).2 (fun he => by have h1 := (h.own.blk_lt k hk).1; have h2 := Option.some.inj he; omega), fun r hr => Row.but encI_ok (h.rows r hr) hb fun hl k hk he => (h.ne r hr hl k hk).2 (by cases he; rfl), h.ne⟩
theorem AllI.push {B bk cp cp' gb : Nat} {w w1 w2 : World} {a a' : Option Addr} {rs : List (RowV Int)} {xs : List Int} (h : AllI B bk w a cp rs) (hx : Ext w w1) (hc : Row 1 encI w1 (some ⟨gb, 0, none⟩) xs) (hge : w.heap.size ≤ gb) (hgl : gb < w1.heap.size) (hB : bk < w.heap.size)
    (hO : Own 1 encRow 22 B w2 a' cp' (rs ++ [(some ⟨gb, 0, none⟩, xs.length, xs)])) (hU : Upd B a w1 w2) (hF : blk a' = blk a ∨ ∃ k, blk a' = some k ∧ w1.heap.size ≤ k) : AllI B bk w2 a' cp' (rs ++ [(some ⟨gb, 0, none⟩, xs.length, xs)]) := by
  have hgna : blk a ≠ some gb := fun he => by have := (h.own.blk_lt gb he).2; omega
  have hnew : ∀ k, k < w1.heap.size → blk a ≠ some k → blk a' ≠ some k := fun k hk hne => by
    rcases hF with hF | ⟨q, hq, hql⟩
    · rw [hF]; exact hne
    · rw [hq]; intro he; cases he; omega
  refine ⟨hO, fun r hr => ?_, fun r hr hl k hk => ?_⟩
  · rcases List.mem_append.1 hr with hr | hr
    · exact Row.but encI_ok ((h.rows r hr).ext hx) hU.grown fun hl k hk he => (h.ne r hr hl k hk).1 he
    · obtain rfl := List.mem_singleton.1 hr
      exact Row.but encI_ok hc hU.grown fun hl k hk he => by cases hk; exact hgna he
  · rcases List.mem_append.1 hr with hr | hr
    · obtain ⟨q, hq, hlt⟩ := Row.blk_lt encI_ok (h.rows r hr) hl
      rw [hq] at hk
      have hqk := Option.some.inj hk
      subst hqk
      have := h.ne r hr hl q hq
      exact ⟨hnew q (Nat.lt_of_lt_of_le hlt hx.size) this.1, this.2⟩
    · obtain rfl := List.mem_singleton.1 hr
      have hk' : gb = k := Option.some.inj hk
      subst hk'
      exact ⟨hnew gb hgl hgna, by omega⟩
end Go.Proofs.Yteidpnpbfagaeaa
namespace Go.Proofs.Yteidpnpbfagaeaa
open Go Go.Lt Go.RowKit
set_option linter.unusedVariables false
set_option linter.unusedSimpArgs false
set_option maxRecDepth 20000

theorem keyI : KeyF Try.prog 3 (fun n : Int => .int .i64 n) := keyF_int (k := .i64) (tOk.at (t := 3) rfl).1
abbrev encK : Int → Value := fun n => .int .i64 n
end Go.Proofs.Yteidpnpbfagaeaa
namespace Go.Proofs.Yteidpnpbfagaeaa
open Go Go.Lt Go.RowKit
set_option linter.unusedVariables false
set_option linter.unusedSimpArgs false
set_option maxRecDepth 20000

abbrev Once (gs : List G3) : Prop := ∀ (i j : Nat) (x y : G3), gs[i]? = some x → gs[j]? = some y → x.1 / 2 = y.1 / 2 → i = j
/-- A literal is of a gate that is not told. -/
def Bl (gs : List G3) (T : List Nat) (l : Int) : Prop := ∃ (j : Nat) (x : G3), gs[j]? = some x ∧ j ∉ T ∧ x.1 / 2 = l / 2
noncomputable def one (p : Prop) : Nat := bif dec p then 1 else 0
theorem one_yes {p : Prop} (h : p) : one p = 1 := by unfold one; rw [dec_true h]; rfl
theorem one_no {p : Prop} (h : ¬ p) : one p = 0 := by unfold one; rw [dec_false h]; rfl
theorem one_zero {p : Prop} : one p = 0 ↔ ¬ p := by
  by_cases h : p
  · rw [one_yes h]; simp [h]
  · rw [one_no h]; simp [h]
theorem one_le (p : Prop) : one p ≤ 1 := by
  by_cases h : p
  · rw [one_yes h]; exact Nat.le_refl _
  · rw [one_no h]; omega
noncomputable def lackG (gs : List G3) (T : List Nat) (g : G3) : Nat := one (Bl gs T g.2.1) + one (Bl gs T g.2.2)
theorem rdy_lack {gs : List G3} {T : List Nat} {i : Nat} {g : G3} (hg : gs[i]? = some g) : Rdy gs T i ↔ (i ∉ T ∧ lackG gs T g = 0) := by
  have h0 : lackG gs T g = 0 ↔ (¬ Bl gs T g.2.1 ∧ ¬ Bl gs T g.2.2) := by
    unfold lackG
    rw [Nat.add_eq_zero_iff, one_zero, one_zero]
  rw [h0]
  constructor
  · rintro ⟨g', hg', h1, h2⟩
    rw [hg] at hg'; cases hg'
    exact ⟨h1, fun ⟨j, x, h3, h4, h5⟩ => (h2 j x h3 h4).1 h5, fun ⟨j, x, h3, h4, h5⟩ => (h2 j x h3 h4).2 h5⟩
  · rintro ⟨h1, h2, h3⟩
    exact ⟨g, hg, h1, fun j x hx hj => ⟨fun he => h2 ⟨j, x, hx, hj, he⟩, fun he => h3 ⟨j, x, hx, hj, he⟩⟩⟩
/-- How often a gate hangs on one. -/
noncomputable def hangs (g : G3) (y : G3) : Nat := one (y.1 / 2 = g.2.1 / 2) + one (y.1 / 2 = g.2.2 / 2)
theorem bl_push {gs : List G3} (ho : Once gs) {T : List Nat} {i : Nat} {y : G3} (hy : gs[i]? = some y) (hi : i ∉ T) (l : Int) : one (Bl gs T l) = one (Bl gs (T ++ [i]) l) + one (y.1 / 2 = l / 2) := by
  by_cases h : y.1 / 2 = l / 2
  · rw [one_yes h, one_yes ⟨i, y, hy, hi, h⟩, one_no]
    rintro ⟨j, x, h1, h2, h3⟩
    exact h2 (List.mem_append_right _ (List.mem_singleton.2 (ho j i x y h1 hy (by omega))))
  · rw [one_no h, Nat.add_zero]
    by_cases hb : Bl gs T l
    · obtain ⟨j, x, h1, h2, h3⟩ := hb
      rw [one_yes ⟨j, x, h1, h2, h3⟩, one_yes]
      refine ⟨j, x, h1, fun hm => ?_, h3⟩
      rcases List.mem_append.1 hm with hm | hm
      · exact h2 hm
      · obtain rfl := List.mem_singleton.1 hm
        rw [hy] at h1; cases h1; exact h h3
    · rw [one_no hb, one_no]
      rintro ⟨j, x, h1, h2, h3⟩
      exact hb ⟨j, x, h1, fun hm => h2 (List.mem_append_left _ hm), h3⟩
theorem lack_push {gs : List G3} (ho : Once gs) {T : List Nat} {i : Nat} {y : G3} (hy : gs[i]? = some y) (hi : i ∉ T) (g : G3) : lackG gs T g = lackG gs (T ++ [i]) g + hangs g y := by
  unfold lackG hangs
  rw [bl_push ho hy hi g.2.1, bl_push ho hy hi g.2.2]; omega
/-- The gates that hang on one, as often as they do, up to a place. -/
noncomputable def abv (gs : List G3) (y : G3) : Nat → List Int
  | 0 => []
  | k + 1 => abv gs y k ++ (match gs[k]? with | some g => List.replicate (hangs g y) ((k : Nat) : Int) | none => [])
theorem abv_mem {gs : List G3} {y : G3} : ∀ {k : Nat} {x : Int}, x ∈ abv gs y k → ∃ (j : Nat) (g : G3), x = (j : Int) ∧ j < k ∧ gs[j]? = some g ∧ 0 < hangs g y
  | 0, x, h => by cases h
  | k + 1, x, h => by
    rw [abv] at h
    rcases List.mem_append.1 h with h | h
    · obtain ⟨j, g, h1, h2, h3⟩ := abv_mem h
      exact ⟨j, g, h1, by omega, h3⟩
    · cases hg : gs[k]? with
      | none => rw [hg] at h; cases h
      | some g =>
        rw [hg] at h
        obtain ⟨h1, h2⟩ := List.mem_replicate.1 h
        exact ⟨k, g, h2, by omega, hg, by omega⟩
theorem abv_count {gs : List G3} {y : G3} {j : Nat} {g : G3} (hg : gs[j]? = some g) : ∀ k, (abv gs y k).count (j : Int) = if j < k then hangs g y else 0
  | 0 => by simp [abv]
  | k + 1 => by
    rw [abv, List.count_append, abv_count hg k]
    by_cases hjk : j = k
    · subst hjk
      rw [hg]
      simp
    · have e0 : ((match gs[k]? with | some g => List.replicate (hangs g y) ((k : Nat) : Int) | none => []) : List Int).count (j : Int) = 0 := by
        cases gs[k]? with
        | none => rfl
        | some g' =>
          refine List.count_eq_zero.2 fun hm => ?_
          have := (List.mem_replicate.1 hm).2
          omega
      rw [e0, Nat.add_zero]
      by_cases h : j < k
      · rw [if_pos h, if_pos (by omega)]
      · rw [if_neg h, if_neg (by omega)]
theorem abv_len (gs : List G3) (y : G3) : ∀ k, (abv gs y k).length ≤ 2 * k
  | 0 => Nat.le_refl _
  | k + 1 => by
    have ih := abv_len gs y k
    rw [abv, List.length_append]
    cases gs[k]? with
    | none => simp; omega
    | some g =>
      have h1 := one_le (y.1 / 2 = g.2.1 / 2)
      have h2 := one_le (y.1 / 2 = g.2.2 / 2)
      simp only [List.length_replicate, hangs]; omega
/-- A gate that hangs on one that is not told is not told. -/
theorem not_told {gs : List G3} {L : List Nat} (hP : PreOrd gs L) {i k : Nat} {y g : G3} (hy : gs[i]? = some y) (hg : gs[k]? = some g) (hh : 0 < hangs g y) (hi : i ∉ L) : k ∉ L := by
  intro hk
  obtain ⟨m, hm⟩ := List.mem_iff_getElem?.1 hk
  obtain ⟨g', hg', _, h2⟩ := (hP m k hm).1
  rw [hg] at hg'; cases hg'
  have h3 := h2 i y hy (fun hh => hi (List.mem_of_mem_take hh))
  unfold hangs at hh
  rw [one_no h3.1, one_no h3.2] at hh
  omega
end Go.Proofs.Yteidpnpbfagaeaa
namespace Go.Proofs.Yteidpnpbfagaeaa
open Go Go.Lt Go.RowKit
set_option linter.unusedVariables false
set_option linter.unusedSimpArgs false
set_option maxRecDepth 20000

abbrev leT (t : List Int) (p q : Nat) : Prop := ∀ a b, t[p]? = some a → t[q]? = some b → a ≤ b
def HO (t : List Int) : Prop := ∀ j, 0 < j → j < t.length → leT t ((j - 1) / 2) j
def UpI (t : List Int) (i : Nat) : Prop := (∀ j, 0 < j → j < t.length → j ≠ i → leT t ((j - 1) / 2) j) ∧ ∀ j, 0 < j → j < t.length → (j - 1) / 2 = i → 0 < i → leT t ((i - 1) / 2) j
def DownI (t : List Int) (i : Nat) : Prop := (∀ j, 0 < j → j < t.length → (j - 1) / 2 ≠ i → leT t ((j - 1) / 2) j) ∧ ∀ j, 0 < j → j < t.length → (j - 1) / 2 = i → 0 < i → leT t ((i - 1) / 2) j
abbrev swp (t : List Int) (i k : Nat) (a b : Int) : List Int := (t.set i b).set k a
theorem swp_len (t : List Int) (i k : Nat) (a b : Int) : (swp t i k a b).length = t.length := by simp
theorem swp_get {t : List Int} {i k : Nat} {a b : Int} (hi : t[i]? = some a) (hk : t[k]? = some b) (j : Nat) : (swp t i k a b)[j]? = if j = k then some a else if j = i then some b else t[j]? := by
  have h1 := lt_of_get hi
  have h2 := lt_of_get hk
  unfold swp
  by_cases e1 : j = k
  · subst e1; rw [if_pos rfl, List.getElem?_set_self (by simpa using h2)]
  · rw [if_neg e1, List.getElem?_set_ne (fun h => e1 h.symm)]
    by_cases e2 : j = i
    · subst e2; rw [if_pos rfl, List.getElem?_set_self h1]
    · rw [if_neg e2, List.getElem?_set_ne (fun h => e2 h.symm)]
theorem swp_mem {t : List Int} {i k : Nat} {a b : Int} (hi : t[i]? = some a) (hk : t[k]? = some b) (x : Int) : x ∈ swp t i k a b ↔ x ∈ t := by
  rw [List.mem_iff_getElem?, List.mem_iff_getElem?]
  constructor
  · rintro ⟨j, hj⟩
    rw [swp_get hi hk] at hj
    split at hj
    · cases hj; exact ⟨i, hi⟩
    · split at hj
      · cases hj; exact ⟨k, hk⟩
      · exact ⟨j, hj⟩
  · rintro ⟨j, hj⟩
    by_cases e1 : j = k
    · subst e1
      rw [hk] at hj; cases hj
      by_cases e2 : i = j
      · subst e2; rw [hk] at hi; cases hi; exact ⟨i, by rw [swp_get hk hk, if_pos rfl]⟩
      · exact ⟨i, by rw [swp_get hi hk, if_neg e2, if_pos rfl]⟩
    · by_cases e2 : j = i
      · subst e2
        rw [hi] at hj; cases hj
        exact ⟨k, by rw [swp_get hi hk, if_pos rfl]⟩
      · exact ⟨j, by rw [swp_get hi hk, if_neg e1, if_neg e2]; exact hj⟩
theorem UpI.stop {t : List Int} {i : Nat} (h : UpI t i) (hi : i = 0 ∨ leT t ((i - 1) / 2) i) : HO t := fun j h0 hl => by
  by_cases he : j = i
  · subst he; rcases hi with hi | hi
    · omega
    · exact hi
  · exact h.1 j h0 hl he
theorem UpI.step {t : List Int} {i : Nat} {a b : Int} (h : UpI t i) (h0 : 0 < i) (hi : t[i]? = some a) (hp : t[(i - 1) / 2]? = some b) (hab : a < b) : UpI (swp t i ((i - 1) / 2) a b) ((i - 1) / 2) := by
  have hli := lt_of_get hi
  refine ⟨fun j j0 jl jne x y hx hy => ?_, fun j j0 jl je p0 x y hx hy => ?_⟩
  · rw [swp_len] at jl
    rw [swp_get hi hp] at hx hy
    rw [if_neg jne] at hy
    by_cases e1 : j = i
    · subst e1; rw [if_pos rfl] at hx hy; cases hx; cases hy; omega
    · rw [if_neg e1] at hy
      by_cases e2 : (j - 1) / 2 = (i - 1) / 2
      · rw [if_pos e2] at hx; cases hx
        have := h.1 j j0 jl e1 b y (by rw [e2]; exact hp) hy
        omega
      · rw [if_neg e2] at hx
        by_cases e3 : (j - 1) / 2 = i
        · rw [if_pos e3] at hx; cases hx
          exact h.2 j j0 jl e3 h0 _ y hp hy
        · rw [if_neg e3] at hx
          exact h.1 j j0 jl e1 x y hx hy
  · rw [swp_len] at jl
    rw [swp_get hi hp] at hx hy
    rw [if_neg (by omega), if_neg (by omega)] at hx
    have k1 := h.1 ((i - 1) / 2) p0 (lt_of_get hp) (by omega) x b hx hp
    rw [if_neg (by omega)] at hy
    by_cases e1 : j = i
    · rw [if_pos e1] at hy; cases hy; exact k1
    · rw [if_neg e1] at hy
      have := h.1 j j0 jl e1 b y (by rw [je]; exact hp) hy
      omega
theorem DownI.stop {t : List Int} {i : Nat} (h : DownI t i) (hc : ∀ j, 0 < j → j < t.length → (j - 1) / 2 = i → leT t i j) : HO t := fun j h0 hl => by
  by_cases he : (j - 1) / 2 = i
  · rw [he]; exact hc j h0 hl he
  · exact h.1 j h0 hl he
theorem DownI.step {t : List Int} {i f : Nat} {a b : Int} (h : DownI t i) (f0 : 0 < f) (hf : (f - 1) / 2 = i) (hi : t[i]? = some a) (hp : t[f]? = some b) (hab : b < a) (hc : ∀ j, 0 < j → j < t.length → (j - 1) / 2 = i → ∀ y, t[j]? = some y → b ≤ y) : DownI (swp t i f a b) f := by
  have hlf := lt_of_get hp
  refine ⟨fun j j0 jl jne x y hx hy => ?_, fun j j0 jl je p0 x y hx hy => ?_⟩
  · rw [swp_len] at jl
    rw [swp_get hi hp] at hx hy
    rw [if_neg jne] at hx
    by_cases e1 : (j - 1) / 2 = i
    · rw [if_pos e1] at hx; cases hx
      by_cases e2 : j = f
      · rw [if_pos e2] at hy; cases hy; omega
      · rw [if_neg e2, if_neg (by omega)] at hy
        exact hc j j0 jl e1 y hy
    · rw [if_neg e1] at hx
      rw [if_neg (fun e => e1 (by subst e; exact hf))] at hy
      by_cases e2 : j = i
      · rw [if_pos e2] at hy; cases hy
        subst e2
        exact h.2 f f0 hlf hf j0 x _ hx hp
      · rw [if_neg e2] at hy
        exact h.1 j j0 jl e1 x y hx hy
  · rw [swp_len] at jl
    rw [swp_get hi hp] at hx hy
    rw [hf, if_neg (by omega), if_pos rfl] at hx; cases hx
    rw [if_neg (by omega), if_neg (by omega)] at hy
    exact h.1 j j0 jl (by omega) _ y (by rw [je]; exact hp) hy
theorem HO.min {t : List Int} (h : HO t) {a : Int} (ha : t[0]? = some a) : ∀ (i : Nat) (b : Int), t[i]? = some b → a ≤ b := by
  intro i
  induction i using Nat.strongRecOn with
  | ind i ih =>
    intro b hb
    by_cases h0 : i = 0
    · subst h0; rw [ha] at hb; cases hb; exact Int.le_refl _
    · obtain ⟨c, hc⟩ := getI t (show (i - 1) / 2 < t.length by have := lt_of_get hb; omega)
      have h1 := ih ((i - 1) / 2) (by omega) c hc
      have h2 := h i (by omega) (lt_of_get hb) c b hc hb
      omega
/-- Where things stand. -/
structure AtOk (n : Nat) (t at_ : List Int) : Prop where
  len : at_.length = n
  pos : ∀ (i : Nat) (x : Int), t[i]? = some x → 0 ≤ x ∧ at_[x.toNat]? = some (i : Int)
  out : ∀ v : Nat, v < n → (v : Int) ∉ t → at_[v]? = some (-1)
theorem AtOk.inj {n : Nat} {t at_ : List Int} (h : AtOk n t at_) {i j : Nat} {x : Int} (hi : t[i]? = some x) (hj : t[j]? = some x) : i = j := by
  have h1 := (h.pos i x hi).2
  have h2 := (h.pos j x hj).2
  rw [h1] at h2
  have := Option.some.inj h2
  omega
theorem AtOk.lt {n : Nat} {t at_ : List Int} (h : AtOk n t at_) {i : Nat} {x : Int} (hi : t[i]? = some x) : 0 ≤ x ∧ x.toNat < n := by
  have h1 := h.pos i x hi
  exact ⟨h1.1, by rw [← h.len]; exact lt_of_get h1.2⟩
theorem AtOk.swap {n : Nat} {t at_ : List Int} (h : AtOk n t at_) {i k : Nat} {a b : Int} (hi : t[i]? = some a) (hk : t[k]? = some b) : AtOk n (swp t i k a b) ((at_.set b.toNat (i : Int)).set a.toNat (k : Int)) := by
  have la := h.lt hi
  have lb := h.lt hk
  have hl := h.len
  refine ⟨by simp [hl], fun j x hx => ?_, fun v hv hn => ?_⟩
  · rw [swp_get hi hk] at hx
    split at hx
    · rename_i e; cases hx; subst e
      exact ⟨la.1, List.getElem?_set_self (by simp; omega)⟩
    · rename_i e1
      split at hx
      · rename_i e2; obtain rfl := Option.some.inj hx; subst e2
        refine ⟨lb.1, ?_⟩
        by_cases e3 : a.toNat = b.toNat
        · have : a = b := by omega
          subst this
          exact absurd (h.inj hi hk) e1
        · rw [List.getElem?_set_ne e3, List.getElem?_set_self (by omega)]
      · rename_i e2
        have hp := h.pos j x hx
        refine ⟨hp.1, ?_⟩
        have n1 : a.toNat ≠ x.toNat := fun e => by
          have : a = x := by omega
          subst this; exact e2 (h.inj hx hi)
        have n2 : b.toNat ≠ x.toNat := fun e => by
          have : b = x := by omega
          subst this; exact e1 (h.inj hx hk)
        rw [List.getElem?_set_ne n1, List.getElem?_set_ne n2]
        exact hp.2
  · have hn' : (v : Int) ∉ t := fun hm => hn ((swp_mem hi hk _).2 hm)
    have n1 : a.toNat ≠ v := fun e => hn' (by rw [show (v : Int) = a by omega]; exact List.mem_of_getElem? hi)
    have n2 : b.toNat ≠ v := fun e => hn' (by rw [show (v : Int) = b by omega]; exact List.mem_of_getElem? hk)
    rw [List.getElem?_set_ne n1, List.getElem?_set_ne n2]
    exact h.out v hv hn'
theorem AtOk.push {n : Nat} {t at_ : List Int} (h : AtOk n t at_) {v : Nat} (hv : v < n) (hn : (v : Int) ∉ t) : AtOk n (t ++ [(v : Int)]) (at_.set v (t.length : Int)) := by
  have hl := h.len
  refine ⟨by simp [hl], fun j x hx => ?_, fun u hu hm => ?_⟩
  · by_cases hj : j < t.length
    · rw [List.getElem?_append_left hj] at hx
      have hp := h.pos j x hx
      refine ⟨hp.1, ?_⟩
      rw [List.getElem?_set_ne (fun e => hn (by rw [show (v : Int) = x by omega]; exact List.mem_of_getElem? hx))]
      exact hp.2
    · rw [List.getElem?_append_right (by omega)] at hx
      have h0 : j - t.length = 0 := by have := lt_of_get hx; simpa using this
      obtain rfl : j = t.length := by omega
      simp at hx; subst hx
      exact ⟨by omega, by rw [Int.toNat_natCast, List.getElem?_set_self (by omega)]⟩
  · rw [List.getElem?_set_ne (fun e => hm (by subst e; simp))]
    exact h.out u hu fun hh => hm (by simp [hh])
theorem HO.push {t : List Int} (h : HO t) (x : Int) : UpI (t ++ [x]) t.length := by
  refine ⟨fun j j0 jl jne => ?_, fun j j0 jl je _ => ?_⟩
  · simp at jl
    intro a b ha hb
    rw [List.getElem?_append_left (by omega)] at ha hb
    exact h j j0 (by omega) a b ha hb
  · simp at jl; omega
/-- What is taken out: the first one; the last one comes into its place. -/
theorem pop_len {t : List Int} {l : Nat} {a b : Int} (hl : t.length = l + 1) : ((swp t 0 l a b).take l).length = l := by simp [hl]
theorem pop_get {t : List Int} {l : Nat} {a b : Int} (hl : t.length = l + 1) (h0 : t[0]? = some a) (hb : t[l]? = some b) (j : Nat) : ((swp t 0 l a b).take l)[j]? = if j < l then (if j = 0 then some b else t[j]?) else none := by
  rw [List.getElem?_take]
  by_cases hj : j < l
  · rw [if_pos hj, if_pos hj, swp_get h0 hb, if_neg (by omega)]
  · rw [if_neg hj, if_neg hj]
theorem pop_down {t : List Int} {l : Nat} {a b : Int} (h : HO t) (hl : t.length = l + 1) (h0 : t[0]? = some a) (hb : t[l]? = some b) : DownI ((swp t 0 l a b).take l) 0 := by
  refine ⟨fun j j0 jl jne x y hx hy => ?_, fun j _ _ _ h => absurd h (by omega)⟩
  rw [pop_len hl] at jl
  rw [pop_get hl h0 hb, if_pos (by omega), if_neg (by omega)] at hx hy
  exact h j j0 (by omega) x y hx hy
theorem pop_at {n : Nat} {t at_ : List Int} {l : Nat} {a b : Int} (h : AtOk n t at_) (hl : t.length = l + 1) (h0 : t[0]? = some a) (hb : t[l]? = some b) : AtOk n ((swp t 0 l a b).take l) (((at_.set b.toNat (0 : Int)).set a.toNat (l : Int)).set a.toNat (-1)) := by
  have hs := h.swap h0 hb
  have la := h.lt h0
  refine ⟨by rw [List.length_set]; exact hs.len, fun j x hx => ?_, fun v hv hn => ?_⟩
  · have hj : j < l := by have := lt_of_get hx; rwa [pop_len hl] at this
    rw [List.getElem?_take, if_pos hj] at hx
    have hp := hs.pos j x hx
    refine ⟨hp.1, ?_⟩
    rw [List.getElem?_set_ne (fun e => ?_)]
    · exact hp.2
    · have : a = x := by omega
      subst this
      have := hs.inj hx (show (swp t 0 l a b)[l]? = some a by rw [swp_get h0 hb, if_pos rfl])
      omega
  · by_cases he : a.toNat = v
    · subst he; exact List.getElem?_set_self (by have := hs.len; simp only [List.length_set] at this ⊢; omega)
    · rw [List.getElem?_set_ne he]
      refine hs.out v hv fun hm => hn ?_
      obtain ⟨j, hj⟩ := List.mem_iff_getElem?.1 hm
      have hjl := lt_of_get hj
      rw [swp_len, hl] at hjl
      by_cases e : j = l
      · subst e
        rw [swp_get h0 hb, if_pos rfl] at hj
        cases hj
        exact absurd (by omega) he
      · exact List.mem_iff_getElem?.2 ⟨j, by rw [List.getElem?_take, if_pos (by omega)]; exact hj⟩
theorem pop_mem {n : Nat} {t at_ : List Int} {l : Nat} {a b : Int} (h : AtOk n t at_) (hl : t.length = l + 1) (h0 : t[0]? = some a) (hb : t[l]? = some b) (x : Int) : x ∈ (swp t 0 l a b).take l ↔ (x ∈ t ∧ x ≠ a) := by
  rw [← swp_mem h0 hb]
  have hs := h.swap h0 hb
  have hla : (swp t 0 l a b)[l]? = some a := by rw [swp_get h0 hb, if_pos rfl]
  constructor
  · intro hx
    refine ⟨List.mem_of_mem_take hx, fun he => ?_⟩
    subst he
    obtain ⟨j, hj⟩ := List.mem_iff_getElem?.1 hx
    have hjl : j < l := by have := lt_of_get hj; rwa [pop_len hl] at this
    rw [List.getElem?_take, if_pos hjl] at hj
    have := hs.inj hj hla
    omega
  · rintro ⟨hx, hne⟩
    obtain ⟨j, hj⟩ := List.mem_iff_getElem?.1 hx
    have hjl := lt_of_get hj
    rw [swp_len, hl] at hjl
    by_cases e : j = l
    · subst e; rw [hla] at hj; cases hj; exact absurd rfl hne
    · exact List.mem_iff_getElem?.2 ⟨j, by rw [List.getElem?_take, if_pos (by omega)]; exact hj⟩
end Go.Proofs.Yteidpnpbfagaeaa
namespace Go.Lt
open Go.RowKit
set_option linter.unusedVariables false
set_option linter.unusedSimpArgs false
section
variable {P : Program} {N : Nat} {e : Env} {w : World} {Q : Exit → Act → World → Prop} {ops : List Oper} {l : List Oper}
  {d : Nat} {tt t ty : TypeId} {ps : String} {af : Array Edge} {g : Option (Nat × Bool)} {x y : Operand}
theorem order00 : FloatKind.f64.format.order 0 0 = some .eq := by decide +kernel
theorem run_f00 (op : BinOp) (b : Bool) (h : (op = .neq ∧ b = false) ∨ (op = .eql ∧ b = true) ∨ (op = .lss ∧ b = false)) (w : World) : (binOp op t (.float .f64 0) (.float .f64 0)).run P w = .ok (.bool b) w := by
  rcases h with ⟨rfl, rfl⟩ | ⟨rfl, rfl⟩ | ⟨rfl, rfl⟩ <;> simp [binOp, Op.floatCmp, order00]
theorem yf00 {op : BinOp} {b : Bool} {dd : Option Tmp} (hx : ev e x = some (.float .f64 0)) (hy : ev e y = some (.float .f64 0)) (h : (op = .neq ∧ b = false) ∨ (op = .eql ∧ b = true) ∨ (op = .lss ∧ b = false)) : Yields P e ⟨dd, .binOp op t x y ty, tt, ps, af, g⟩ (.bool b) := by
  intro ρ hρ w
  have h1 := run_f00 (P := P) (t := t) op b h w
  simp [execOp, hρ _ _ hx, hρ _ _ hy, h1, eqGuard]
theorem WL.f00 {op : BinOp} {b : Bool} (hg : gate ops e g = some true) (hd : Nat.blt d N = true) (hx : ev e x = some (.float .f64 0)) (hy : ev e y = some (.float .f64 0)) (h : (op = .neq ∧ b = false) ∨ (op = .eql ∧ b = true) ∨ (op = .lss ∧ b = false))
    (k : WL P N ops.toArray l ((d, .bool b) :: e) w Q) : WL P N ops.toArray (⟨some d, .binOp op t x y ty, tt, ps, af, g⟩ :: l) e w Q := WL.step hg hd (yf00 hx hy h).in k
end
end Go.Lt
namespace Go.Proofs.Yteidpnpbfagaeaa
open Go Go.Lt Go.RowKit
set_option linter.unusedVariables false
set_option linter.unusedSimpArgs false
set_option maxRecDepth 20000

def Th : Tab := [(181, ⟨.slice 187, 1, 24, .slice none 0 0⟩), (187, ⟨.float .f64, 1, 8, .float .f64 0⟩)]
theorem thOk : OkTab Try.prog Th := ⟨⟨by kernel_rfl, by kernel_rfl⟩, ⟨by kernel_rfl, by kernel_rfl⟩, trivial⟩
abbrev encF : Nat → List Value := fun b => [.float .f64 b]
theorem encF_ok : Enc 1 encF := ⟨fun _ => rfl, fun x u hu => by simp at hu; subst hu; rfl, by decide⟩
abbrev hpP (B gh : Nat) (as_ : Option Addr) (cs : Nat) (F : List Nat) (tr : Option Addr) (ct nt : Nat) (t : List Int) (ap : Option Addr) (cp : Nat) (A : List Int) : List Piece :=
  [pcell gh #[.slice as_ F.length cs, .slice tr nt ct, .slice ap A.length cp] 183, prow 1 encF 187 B as_ cs F, prow 1 encI 3 B tr ct t, prow 1 encI 3 B ap cp A]
theorem score_Less (w : World) : Still Try.prog 174 [.float .f64 0, .float .f64 0] w (.bool false) := by
  refine Spec.of _ Try.func174 rfl Try.ntmps174 (by kernel_rfl) rfl ?_
  repeat' (first
    | ((apply WL.f00; (iterate 4 exact rfl); first | exact .inl ⟨rfl, rfl⟩ | exact .inr (.inl ⟨rfl, rfl⟩) | exact .inr (.inr ⟨rfl, rfl⟩)))
    | (show WL _ _ _ _ _ _ _; first | apply WL.nil | (refine WL.au (k := ?_)))
    | (show Z _ _ _ _ _; apply Z.then_normal)
    | (show W _ _ _ _ _ _; first | apply W.seq | apply W.region | apply W.skip | apply W.ret | (apply W.condF; exact rfl))
    | fail)
  exact Z.body1 Try.results174 rfl fun m => ⟨rfl, m, rfl⟩
section
variable {B gh cs ct cp nt : Nat} {w w0 : World} {as_ tr ap : Option Addr} {F : List Nat} {t A : List Int} {rest : List Piece}
theorem heap_ahead (hS : Lt.Sep B w (hpP B gh as_ cs F tr ct nt t ap cp A ++ rest)) (hF : ∀ x ∈ F, x = 0) (xa xb : Int) (ha : 0 ≤ xa ∧ xa.toNat < F.length) (hbb : 0 ≤ xb ∧ xb.toNat < F.length) :
    Still Try.prog 173 [.pointer (some ⟨gh, 0, none⟩), .int .i64 xa, .int .i64 xb] w (.bool (dec (xa < xb))) := by
  have h := cells_heap (hS.cell (i := 0) rfl)
  have c0 := h.1
  have RF := Own.row encF_ok (hS.row (i := 1) rfl)
  obtain ⟨z1, hz1⟩ := getI F ha.2
  obtain ⟨z2, hz2⟩ := getI F hbb.2
  obtain rfl := hF z1 (List.mem_of_getElem? hz1)
  obtain rfl := hF z2 (List.mem_of_getElem? hz2)
  clear h
  refine Spec.of _ Try.func173 rfl Try.ntmps173 (by kernel_rfl) rfl ?_
  repeat' (first
    | (apply QL.nilc; (iterate 3 exact rfl))
    | ((apply QL.index thOk; (iterate 8 exact rfl); assumption; exact (by (exact extA)); exact rfl; omega; assumption; intro b off h; have hcc := h; obtain ⟨h1, _⟩ := h))
    | ((apply QL.load thOk; (iterate 5 exact rfl); assumption))
    | ((show WL _ _ _ (⟨_, .call ⟨.value (.func 174), _, _⟩, _, _, _, _⟩ :: _) _ _ _); apply WL.callS; (iterate 4 exact rfl); exact score_Less _)
    | (show WL _ _ _ _ _ _ _; first | apply WL.nil | (refine WL.au (k := ?_)))
    | (show QL _ _ _ _ _ _ _; first | apply QL.nil | (refine QL.au (k := ?_)))
    | (show Z _ _ _ _ _; apply Z.then_normal)
    | (show W _ _ _ _ _ _; first | apply W.seq | apply W.region | apply W.ret | (apply W.regionD tMix; kernel_rfl))
    | fail)
  exact Z.body1 Try.results173 rfl fun m => ⟨rfl, m, rfl⟩
set_option maxHeartbeats 8000000 in
theorem heap_swap (hX : Ext w0 w) (hS : Lt.Sep w0.heap.size w (hpP w0.heap.size gh as_ cs F tr ct t.length t ap cp A ++ rest)) (hA : AtOk F.length t A) (i k : Nat) (ya yb : Int) (hi : t[i]? = some ya) (hk : t[k]? = some yb) (hlen : t.length ≤ 1048576) :
    Lt.Spec Try.prog 170 [.pointer (some ⟨gh, 0, none⟩), .int .i64 i, .int .i64 k] w (fun v w' => v = .tuple #[] ∧ Ext w0 w' ∧ Lt.Sep w0.heap.size w' (hpP w0.heap.size gh as_ cs F tr ct t.length (swp t i k ya yb) ap cp ((A.set yb.toNat (i : Int)).set ya.toNat (k : Int)) ++ rest)) := by
  have hgt := (hS.lt (i := 0) rfl rfl).1
  have h := cells_heap (hS.cell (i := 0) rfl)
  have c0 := h.1
  have c1 := h.2.1
  have c2 := h.2.2.1
  clear h
  have hR2 := hS.row (i := 2) rfl
  have hR3 := hS.row (i := 3) rfl
  have li := lt_of_get hi
  have lk := lt_of_get hk
  have la := hA.lt hi
  have lb := hA.lt hk
  have hAl := hA.len
  have hi' : t[((i : Nat) : Int).toNat]? = some ya := hi
  have hk' : t[((k : Nat) : Int).toNat]? = some yb := hk
  have hk2 : (t.set ((i : Nat) : Int).toNat yb)[((k : Nat) : Int).toNat]? = some yb := by
    show (t.set i yb)[k]? = some yb
    by_cases e : i = k
    · subst e; exact List.getElem?_set_self li
    · rw [List.getElem?_set_ne e]; exact hk
  have hs3 : ((t.set ((i : Nat) : Int).toNat yb).set ((k : Nat) : Int).toNat ya)[((i : Nat) : Int).toNat]? = some yb := by
    show (swp t i k ya yb)[i]? = _
    rw [swp_get hi hk]
    split
    · rename_i e; subst e; rw [hi] at hk; exact hk
    · rw [if_pos rfl]
  have hs4 : ((t.set ((i : Nat) : Int).toNat yb).set ((k : Nat) : Int).toNat ya)[((k : Nat) : Int).toNat]? = some ya := by
    show (swp t i k ya yb)[k]? = _
    rw [swp_get hi hk, if_pos rfl]
  obtain ⟨z1, hz1⟩ := getI A (show yb.toNat < A.length by omega)
  obtain ⟨z2, hz2⟩ := getI (A.set yb.toNat (i : Int)) (show ya.toNat < (A.set yb.toNat (i : Int)).length by rw [List.length_set]; omega)
  have hlk : ∀ z, (t.set ((i : Nat) : Int).toNat z).length = t.length := fun z => List.length_set
  refine Spec.of _ Try.func170 rfl Try.ntmps170 (by kernel_rfl) rfl ?_
  repeat' (first
    | (apply FL.nilc; (iterate 3 exact rfl))
    | (show W _ _ (.region 0 _ _) _ _ _; apply W.regionGB (.fl true 0 (.fl true 1 (.fl true 2 (.fl true 4 (.fl true 5 (.fl true 6 (.fl true 7 (.fl true 9 (.fl true 10 (.fl true 11 (.fl true 12 (.fl true 14 (.fl true 17 (.fl true 18 (.fl true 19 (.fl true 21 (.fl false 3 (.fl false 8 (.fl false 13 (.fl true 15 (.fl false 16 (.fl false 20 (.fl true 22 (.fl false 23 (.fl true 24 (.br 25 (.fl true 26 (.br 27 .done .stop)) .stop)))))))))))))))))))))))))) [8, 13, 15, 16, 20, 22, 23] (none) tMix; kernel_rfl)
    | (show W _ _ (.region 1 _ _) _ _ _; apply W.regionGB (.fl true 0 (.fl true 1 (.fl true 2 (.fl true 4 (.fl true 5 (.fl true 6 (.fl true 8 (.fl true 11 (.fl true 12 (.fl true 13 (.fl true 15 (.fl true 16 (.fl true 17 (.fl true 19 (.fl true 22 (.fl true 23 (.fl false 3 (.fl false 7 (.fl true 9 (.fl false 10 (.fl false 14 (.fl false 18 (.fl true 20 (.fl false 21 (.fl true 24 (.br 25 (.fl true 26 (.br 27 .done .stop)) .stop)))))))))))))))))))))))))) [7, 9, 10, 14, 18, 20, 21] (none) tMix; kernel_rfl)
    | (apply WL.storeO tOk; (iterate 4 exact rfl); assumption; (exact extA); (iterate 3 exact rfl); exact encI_ok; assumption; exact rfl; (exact extA); intro w' hO hX' hU; (first | replace hS := Sep.updRow (i := 0) rfl hU hO (.inl rfl) hS (by (exact extA)) (by (first | exact Nat.le_refl _ | exact Below.size (by (exact extA)))) | replace hS := Sep.updRow (i := 1) rfl hU hO (.inl rfl) hS (by (exact extA)) (by (first | exact Nat.le_refl _ | exact Below.size (by (exact extA)))) | replace hS := Sep.updRow (i := 2) rfl hU hO (.inl rfl) hS (by (exact extA)) (by (first | exact Nat.le_refl _ | exact Below.size (by (exact extA)))) | replace hS := Sep.updRow (i := 3) rfl hU hO (.inl rfl) hS (by (exact extA)) (by (first | exact Nat.le_refl _ | exact Below.size (by (exact extA)))) | replace hS := Sep.updRow (i := 4) rfl hU hO (.inl rfl) hS (by (exact extA)) (by (first | exact Nat.le_refl _ | exact Below.size (by (exact extA)))) | replace hS := Sep.updRow (i := 5) rfl hU hO (.inl rfl) hS (by (exact extA)) (by (first | exact Nat.le_refl _ | exact Below.size (by (exact extA))))); (try simp only [List.set_cons_zero, List.set_cons_succ] at hS); (try have hR0 := hS.row (i := 0) rfl); (try have hR1 := hS.row (i := 1) rfl); (try have hR2 := hS.row (i := 2) rfl); (try have hR3 := hS.row (i := 3) rfl); (try have hR4 := hS.row (i := 4) rfl); (try have hC0 := hS.cell (i := 0) rfl); (try have hD0 := (cells_heap hC0).1); (try have hE0 := (cells_heap hC0).2.1); (try have hF0 := (cells_heap hC0).2.2.1); (try have hG0 := (cells_heap hC0).2.2.2.1); (try have hC1 := hS.cell (i := 1) rfl); (try have hD1 := (cells_heap hC1).1); (try have hE1 := (cells_heap hC1).2.1); (try have hF1 := (cells_heap hC1).2.2.1); (try have hG1 := (cells_heap hC1).2.2.2.1); (try have hC2 := hS.cell (i := 2) rfl); (try have hD2 := (cells_heap hC2).1); (try have hE2 := (cells_heap hC2).2.1); (try have hF2 := (cells_heap hC2).2.2.1); (try have hG2 := (cells_heap hC2).2.2.2.1); (try have hC3 := hS.cell (i := 3) rfl); (try have hD3 := (cells_heap hC3).1); (try have hE3 := (cells_heap hC3).2.1); (try have hF3 := (cells_heap hC3).2.2.1); (try have hG3 := (cells_heap hC3).2.2.2.1); (try have hC4 := hS.cell (i := 4) rfl); (try have hD4 := (cells_heap hC4).1); (try have hE4 := (cells_heap hC4).2.1); (try have hF4 := (cells_heap hC4).2.2.1); (try have hG4 := (cells_heap hC4).2.2.2.1); (try have hM0 := hS.map (i := 0) rfl); (try have hM1 := hS.map (i := 1) rfl); (try have hM2 := hS.map (i := 2) rfl); (try have hM3 := hS.map (i := 3) rfl); (try have hM4 := hS.map (i := 4) rfl))
    | (apply FL.indexO tOk; (iterate 8 exact rfl); assumption; (exact extA); exact encI_ok; (first | exact rfl | (focus (simp only [List.length_set]; done)) | (focus (simp; done)) | (focus (simp [*]; done)) | omega | (focus (simp only [List.length_set]; omega))); omega; assumption; intro gb ha hc; cases ha; have hcc := hc; first | (obtain ⟨h1, h2, h3, _⟩ := hc) | (obtain ⟨h1, h2, _⟩ := hc) | (obtain ⟨h1, _⟩ := hc))
    | (show WL _ _ _ _ _ _ _; apply WL.nil)
    | (show SG _ _ _ _ _ _ _ _ _; first | apply SG.done | (apply SG.fl0; exact rfl) | (apply SG.fl1; exact rfl; (focus ((intro m; first | assumption | (apply Ext.at; (exact extA)) | apply But.of_at; first | exact But.upd (by assumption) | exact But.ext (by (exact extA)) | (refine But.trans ?_ (But.upd (by assumption)); exact But.ext (by (exact extA))) | exact But.at _ _ _); done))) | (apply SG.br1; exact rfl))
    | (show FL _ _ _ _ _ _ _ _; first | apply FL.nilS | (refine FL.au (k := ?_)) | (apply FL.loadG tOk; (iterate 5 exact rfl); (first | assumption | (focus (apply Ext.cell; rotate_left; assumption; (exact extA); done))); (first | (focus (intro h; cases h; done)) | (focus (intro h; have h9 := hBC _ h; (try simp only at h9); omega)) | assumption | (focus (intro h; simp only [blk, Option.map_some, Option.some.injEq] at h; omega)))))
    | (show Z _ _ _ _ _; (apply Z.sgL; exact rfl))
    | (show Z _ _ _ _ _; apply Z.then_normal)
    | (show W _ _ _ _ _ _; apply W.seq)
    | fail)
  exact Z.body0n Try.results170 fun m => ⟨rfl, hX'.at m, by simpa using hS.ext ((Ext.refl _).at m)⟩
end
end Go.Proofs.Yteidpnpbfagaeaa
