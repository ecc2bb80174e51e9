/- Some pieces of memory of one's own, each in a block of its own. Generic over the program. No conditions. -/
import Derived.Test.YtfkdlepemiepdaaLtRows
namespace Go.Lt
open Go.RowKit
set_option linter.unusedVariables false

theorem Own.keep {α : Type} {s : Nat} {enc : α → List Value} {el B : Nat} {w w' : World} {a : Option Addr} {cap : Nat} {l : List α} (h : Own s enc el B w a cap l) (hb : ∀ k, blk a = some k → w'.heap[k]? = w.heap[k]?) : Own s enc el B w' a cap l := by
  refine ⟨h.1, ?_⟩
  rcases h.2 with ⟨h1, h2⟩ | ⟨g', c', cur, h1, h2, h3, h4, h5, h6, h7⟩
  · exact .inl ⟨h1, h2⟩
  · have ha : blk a = some g' := by
      simp only [Value.slice.injEq] at h1
      rw [h1.1]; rfl
    exact .inr ⟨g', c', cur, h1, h2, by rw [hb g' ha]; exact h3, h4, h5, h6, h7⟩

structure Piece where
  b : Option Nat
  P : World → Prop
  keep : ∀ {w w' : World}, P w → (∀ k, b = some k → w'.heap[k]? = w.heap[k]?) → P w'

def prow {α : Type} (s : Nat) (enc : α → List Value) (el B : Nat) (a : Option Addr) (cap : Nat) (l : List α) : Piece := ⟨blk a, fun w => Own s enc el B w a cap l, fun h hb => h.keep hb⟩
def pcell (gb : Nat) (cs : Array Value) (t : Nat) : Piece := ⟨some gb, fun w => w.heap[gb]? = some (.cells cs t (0, 0)), fun h hb => by rw [hb gb rfl]; exact h⟩

structure Sep (B : Nat) (w : World) (ps : List Piece) : Prop where
  holds : ∀ (i : Nat) (p : Piece), ps[i]? = some p → p.P w ∧ ∀ k, p.b = some k → B ≤ k ∧ k < w.heap.size
  apart : ∀ (i j : Nat) (p q : Piece), ps[i]? = some p → ps[j]? = some q → i ≠ j → p.b = none ∨ p.b ≠ q.b

section
variable {B : Nat} {w w' : World} {ps : List Piece} {α : Type} {s : Nat} {enc : α → List Value} {el cap : Nat} {a : Option Addr} {l : List α}
theorem Sep.none' : Sep B w [] := ⟨fun i p h => by simp at h, fun i j p q h => by simp at h⟩
theorem Sep.row {i : Nat} (hS : Sep B w ps) (h : ps[i]? = some (prow s enc el B a cap l)) : Own s enc el B w a cap l := (hS.holds i _ h).1
theorem Sep.cell {i gb : Nat} {cs : Array Value} {t : Nat} (hS : Sep B w ps) (h : ps[i]? = some (pcell gb cs t)) : w.heap[gb]? = some (.cells cs t (0, 0)) := (hS.holds i _ h).1
theorem Sep.lt {i : Nat} {p : Piece} {k : Nat} (hS : Sep B w ps) (h : ps[i]? = some p) (hk : p.b = some k) : B ≤ k ∧ k < w.heap.size := (hS.holds i _ h).2 k hk
theorem Sep.ext (hS : Sep B w ps) (hx : Ext w w') : Sep B w' ps :=
  ⟨fun i p h => ⟨p.keep (hS.holds i p h).1 (fun k hk => hx.block k ((hS.holds i p h).2 k hk).2), fun k hk => ⟨((hS.holds i p h).2 k hk).1, Nat.lt_of_lt_of_le ((hS.holds i p h).2 k hk).2 hx.size⟩⟩, hS.apart⟩
/-- A new piece. -/
theorem Sep.new {p : Piece} (hS : Sep B w ps) (hx : Ext w w') (hp : p.P w') (hb : ∀ k, p.b = some k → w.heap.size ≤ k ∧ k < w'.heap.size) (hB : B ≤ w.heap.size) : Sep B w' (p :: ps) := by
  have hS' := hS.ext hx
  refine ⟨fun i q h => ?_, fun i j q r h1 h2 hne => ?_⟩
  · cases i with
    | zero => cases h; exact ⟨hp, fun k hk => ⟨Nat.le_trans hB (hb k hk).1, (hb k hk).2⟩⟩
    | succ i => exact hS'.holds i q h
  · cases i with
    | zero =>
      cases h1
      cases j with
      | zero => exact absurd rfl hne
      | succ j =>
        cases hpb : p.b with
        | none => exact .inl rfl
        | some k =>
          refine .inr fun he => ?_
          have h3 := ((hS.holds j r h2).2 k he.symm).2
          have h4 := (hb k hpb).1
          omega
    | succ i =>
      cases j with
      | zero =>
        cases h2
        cases hqb : q.b with
        | none => exact .inl rfl
        | some k =>
          refine .inr fun he => ?_
          have h3 := ((hS.holds i q h1).2 k hqb).2
          have h4 := (hb k he.symm).1
          omega
      | succ j => exact hS.apart i j q r h1 h2 (by omega)
theorem Sep.newRow (hS : Sep B w ps) (hx : Ext w w') (hO : Own s enc el B w' a cap l) (hb : ∀ k, blk a = some k → w.heap.size ≤ k) (hB : B ≤ w.heap.size) : Sep B w' (prow s enc el B a cap l :: ps) :=
  hS.new hx hO (fun k hk => ⟨hb k hk, (hO.blk_lt k hk).2⟩) hB
theorem Sep.newRow' (hS : Sep B w ps) (hx : Ext w w') (hO : Own s enc el w.heap.size w' a cap l) (hB : B ≤ w.heap.size) : Sep B w' (prow s enc el B a cap l :: ps) :=
  hS.newRow hx (hO.base hB) (fun k hk => (hO.blk_lt k hk).1) hB
theorem Sep.newCell {gb : Nat} {cs : Array Value} {t : Nat} (hS : Sep B w ps) (hx : Ext w w') (h : w'.heap[gb]? = some (.cells cs t (0, 0))) (hge : w.heap.size ≤ gb) (hB : B ≤ w.heap.size) : Sep B w' (pcell gb cs t :: ps) :=
  hS.new hx h (fun k hk => by cases hk; exact ⟨hge, heap_lt h⟩) hB
/-- One piece is written anew. -/
theorem Sep.upd {i : Nat} {p p' : Piece} (hS : Sep B w ps) (hi : ps[i]? = some p) (hU : w.grownBy w' p.b) (hp : p'.P w') (hF : p'.b = p.b ∨ ∃ k, p'.b = some k ∧ w.heap.size ≤ k ∧ k < w'.heap.size) (hB : B ≤ w.heap.size) : Sep B w' (ps.set i p') := by
  have hlt := lt_of_get hi
  have hset : ∀ (j : Nat) (q : Piece), (ps.set i p')[j]? = some q → (j = i ∧ q = p') ∨ (j ≠ i ∧ ps[j]? = some q) := fun j q hq => by
    rw [List.getElem?_set] at hq
    by_cases hj : i = j
    · subst hj
      rw [if_pos rfl, if_pos hlt] at hq
      exact .inl ⟨rfl, (Option.some.inj hq).symm⟩
    · rw [if_neg hj] at hq
      exact .inr ⟨fun h => hj h.symm, hq⟩
  have hnew : ∀ (j : Nat) (q : Piece), ps[j]? = some q → j ≠ i → (q.b = none ∨ q.b ≠ p'.b) ∧ (p'.b = none ∨ p'.b ≠ q.b) := fun j q hq hj => by
    rcases hF with hF | ⟨k, hk, hle, _⟩
    · rw [hF]; exact ⟨hS.apart j i q p hq hi hj, hS.apart i j p q hi hq (fun h => hj h.symm)⟩
    · have hne : q.b ≠ p'.b := fun he => by
        rw [hk] at he
        have := ((hS.holds j q hq).2 k he).2
        omega
      exact ⟨.inr hne, .inr (fun h => hne h.symm)⟩
  refine ⟨fun j q hq => ?_, fun j1 j2 q1 q2 h1 h2 hne => ?_⟩
  · rcases hset j q hq with ⟨rfl, rfl⟩ | ⟨hj, hq⟩
    · refine ⟨hp, fun k hk => ?_⟩
      rcases hF with hF | ⟨k', hk', hle, hlt'⟩
      · have := (hS.holds _ p hi).2 k (by rw [← hF]; exact hk)
        exact ⟨this.1, Nat.lt_of_lt_of_le this.2 hU.size⟩
      · rw [hk'] at hk; cases hk; exact ⟨Nat.le_trans hB hle, hlt'⟩
    · refine ⟨q.keep (hS.holds j q hq).1 (fun k hk => hU.block k ((hS.holds j q hq).2 k hk).2 (fun he => ?_)), fun k hk => ⟨((hS.holds j q hq).2 k hk).1, Nat.lt_of_lt_of_le ((hS.holds j q hq).2 k hk).2 hU.size⟩⟩
      rcases hS.apart j i q p hq hi hj with h3 | h3
      · rw [h3] at hk; cases hk
      · exact h3 (by rw [hk]; exact he)
  · rcases hset j1 q1 h1 with ⟨rfl, rfl⟩ | ⟨hj1, hq1⟩
    · rcases hset j2 q2 h2 with ⟨rfl, rfl⟩ | ⟨hj2, hq2⟩
      · exact absurd rfl hne
      · exact (hnew j2 q2 hq2 hj2).2
    · rcases hset j2 q2 h2 with ⟨rfl, rfl⟩ | ⟨hj2, hq2⟩
      · exact (hnew j1 q1 hq1 hj1).1
      · exact hS.apart j1 j2 q1 q2 hq1 hq2 hne
theorem Sep.updRow {i : Nat} {a' : Option Addr} {cap' : Nat} {l' : List α} {w1 : World} (hi : ps[i]? = some (prow s enc el B a cap l)) (hU : Upd B a w w') (hO : Own s enc el B w' a' cap' l') (hF : blk a' = blk a ∨ ∃ k, blk a' = some k ∧ w.heap.size ≤ k) (hS : Sep B w1 ps) (hx : Ext w1 w) (hB : B ≤ w.heap.size) :
    Sep B w' (ps.set i (prow s enc el B a' cap' l')) :=
  (hS.ext hx).upd hi hU.grown hO (hF.imp id fun ⟨k, hk, hle⟩ => ⟨k, hk, hle, (hO.blk_lt k hk).2⟩) hB
theorem Sep.updCell {i gb : Nat} {cs cs' : Array Value} {t t' B' : Nat} {w1 : World} (hi : ps[i]? = some (pcell gb cs t)) (hU : Upd B' (some ⟨gb, 0, none⟩) w w') (h : w'.heap[gb]? = some (.cells cs' t' (0, 0))) (hS : Sep B w1 ps) (hx : Ext w1 w) (hB : B ≤ w.heap.size) :
    Sep B w' (ps.set i (pcell gb cs' t')) :=
  (hS.ext hx).upd hi hU.grown h (.inl rfl) hB
/-- Another block, newer than all pieces, is written. -/
theorem Sep.updNew {gb B' : Nat} {w1 : World} (hS : Sep B w1 ps) (hx : Ext w1 w) (hU : Upd B' (some ⟨gb, 0, none⟩) w w') (hge : w1.heap.size ≤ gb) : Sep B w' ps := by
  have hS' := hS.ext hx
  refine ⟨fun i p h => ⟨p.keep (hS'.holds i p h).1 (fun k hk => hU.grown.block k ((hS'.holds i p h).2 k hk).2 (fun he => ?_)), fun k hk => ⟨((hS'.holds i p h).2 k hk).1, Nat.lt_of_lt_of_le ((hS'.holds i p h).2 k hk).2 hU.grown.size⟩⟩, hS.apart⟩
  have h1 := ((hS.holds i p h).2 k hk).2
  simp only [blk, Option.map_some, Option.some.injEq] at he
  omega
theorem Sep.drop (hS : Sep B w ps) (n : Nat) : Sep B w (ps.drop n) :=
  ⟨fun i p h => hS.holds (n + i) p (by rw [List.getElem?_drop] at h; exact h), fun i j p q h1 h2 hne => hS.apart (n + i) (n + j) p q (by rw [List.getElem?_drop] at h1; exact h1) (by rw [List.getElem?_drop] at h2; exact h2) (by omega)⟩
end
end Go.Lt
