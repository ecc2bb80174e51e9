/- Rows of one's own whose elements are rows of one's own. Generic over the program. No conditions. -/
import Derived.Test.YtfkdlepemiepdaaLtFloat
import Derived.Test.YtfkdlepemiepdaaLtLift
namespace Go.Lt
open Go.RowKit
set_option linter.unusedVariables false

structure OwnRR {α : Type} (s : Nat) (enc : α → List Value) (el elO B : Nat) (w : World) (a : Option Addr) (cap : Nat) (rs : List (RowV α)) : Prop where
  outer : Own 1 encRow elO B w a cap rs
  inner : ∀ (i : Nat) (r : RowV α), rs[i]? = some r → Own s enc el B w r.1 r.2.1 r.2.2
  apartO : ∀ (i : Nat) (r : RowV α), rs[i]? = some r → blk r.1 = none ∨ blk r.1 ≠ blk a
  apart : ∀ (i j : Nat) (r q : RowV α), rs[i]? = some r → rs[j]? = some q → i ≠ j → blk r.1 = none ∨ blk r.1 ≠ blk q.1

section
variable {α : Type} {s : Nat} {enc : α → List Value} {el elO B : Nat} {w w1 w2 : World} {a : Option Addr} {cap : Nat} {rs : List (RowV α)}
theorem OwnRR.ext (h : OwnRR s enc el elO B w a cap rs) (hx : Ext w w1) : OwnRR s enc el elO B w1 a cap rs :=
  ⟨h.outer.ext hx, fun i r hr => (h.inner i r hr).ext hx, h.apartO, h.apart⟩
theorem OwnRR.start {m : Nat} (h : Own 1 encRow elO B w a cap (List.replicate m ((none, 0, []) : RowV α))) : OwnRR s enc el elO B w a cap (List.replicate m (none, 0, [])) := by
  have hr : ∀ (i : Nat) (r : RowV α), (List.replicate m ((none, 0, []) : RowV α))[i]? = some r → r = (none, 0, []) := fun i r hr => by
    rw [List.getElem?_replicate] at hr
    split at hr
    · exact (Option.some.inj hr).symm
    · cases hr
  refine ⟨h, fun i r h => ?_, fun i r h => ?_, fun i j r q h _ _ => ?_⟩
  · rw [hr i r h]; exact Own.nil
  · rw [hr i r h]; exact .inl rfl
  · rw [hr i r h]; exact .inl rfl
theorem OwnRR.outNe {gb i : Nat} {r : RowV α} (h : OwnRR s enc el elO B w (some ⟨gb, 0, none⟩) cap rs) (hr : rs[i]? = some r) : blk (some ⟨gb, 0, none⟩) = none ∨ blk (some ⟨gb, 0, none⟩) ≠ blk r.1 := by
  refine .inr fun he => ?_
  rcases h.apartO i r hr with h1 | h1
  · rw [h1] at he; cases he
  · exact h1 he.symm
/-- Another block is written. -/
theorem OwnRR.kept {B' : Nat} {c : Option Addr} (h : OwnRR s enc el elO B w a cap rs) (hU : Upd B' c w w1) (hO : blk a = none ∨ blk a ≠ blk c) (hI : ∀ (i : Nat) (r : RowV α), rs[i]? = some r → blk r.1 = none ∨ blk r.1 ≠ blk c) : OwnRR s enc el elO B w1 a cap rs :=
  ⟨hU.own h.outer hO, fun i r hr => hU.own (h.inner i r hr) (hI i r hr), h.apartO, h.apart⟩
theorem OwnRR.keptNew {B' gb : Nat} (h : OwnRR s enc el elO B w a cap rs) (hU : Upd B' (some ⟨gb, 0, none⟩) w1 w2) (hx : Ext w w1) (hn : w.heap.size ≤ gb) : OwnRR s enc el elO B w2 a cap rs :=
  (h.ext hx).kept hU (h.outer.blk_ne hn) (fun i r hr => (h.inner i r hr).blk_ne hn)
/-- An element is appended to one of the rows, and the row is put back. -/
theorem OwnRR.step {i : Nat} {r : RowV α} {a' : Option Addr} {cap' : Nat} {l' : List α} (h : OwnRR s enc el elO B w a cap rs) (hr : rs[i]? = some r) (hU : Upd B r.1 w w1) (hF : blk a' = blk r.1 ∨ ∃ k, blk a' = some k ∧ w.heap.size ≤ k)
    (hO1 : Own s enc el B w1 a' cap' l') (hU2 : Upd B a w1 w2) (hO2 : Own 1 encRow elO B w2 a cap (rs.set i (a', cap', l'))) : OwnRR s enc el elO B w2 a cap (rs.set i (a', cap', l')) := by
  have hi := lt_of_get hr
  have hset : ∀ (j : Nat) (q : RowV α), (rs.set i (a', cap', l'))[j]? = some q → (j = i ∧ q = (a', cap', l')) ∨ (j ≠ i ∧ rs[j]? = some q) := fun j q hq => by
    rw [List.getElem?_set] at hq
    by_cases hj : i = j
    · subst hj
      rw [if_pos rfl, if_pos hi] at hq
      exact .inl ⟨rfl, (Option.some.inj hq).symm⟩
    · rw [if_neg hj] at hq
      exact .inr ⟨fun h => hj h.symm, hq⟩
  have hnewO : blk a' = none ∨ blk a' ≠ blk a := by
    rcases hF with hF | ⟨k, hk, hle⟩
    · rw [hF]; exact h.apartO i r hr
    · refine .inr fun he => ?_
      have := (h.outer.blk_lt k (he.symm.trans hk)).2
      omega
  have hnew : ∀ (j : Nat) (q : RowV α), rs[j]? = some q → j ≠ i → (blk q.1 = none ∨ blk q.1 ≠ blk a') := fun j q hq hj => by
    rcases hF with hF | ⟨k, hk, hle⟩
    · rw [hF]; exact h.apart j i q r hq hr hj
    · cases hb : blk q.1 with
      | none => exact .inl rfl
      | some b =>
        refine .inr fun he => ?_
        rw [hk] at he
        have h1 := ((h.inner j q hq).blk_lt b hb).2
        have h2 := Option.some.inj he
        omega
  refine ⟨hO2, fun j q hq => ?_, fun j q hq => ?_, fun j1 j2 q1 q2 h1 h2 hne => ?_⟩
  · rcases hset j q hq with ⟨rfl, rfl⟩ | ⟨hj, hq⟩
    · exact hU2.own hO1 hnewO
    · exact hU2.own (hU.own (h.inner j q hq) (h.apart j i q r hq hr hj)) (h.apartO j q hq)
  · rcases hset j q hq with ⟨rfl, rfl⟩ | ⟨hj, hq⟩
    · exact hnewO
    · exact h.apartO j q hq
  · rcases hset j1 q1 h1 with ⟨rfl, rfl⟩ | ⟨hj1, hq1⟩
    · rcases hset j2 q2 h2 with ⟨rfl, rfl⟩ | ⟨hj2, hq2⟩
      · exact absurd rfl hne
      · show blk a' = none ∨ blk a' ≠ blk q2.1
        cases hb : blk a' with
        | none => exact .inl rfl
        | some b =>
          refine .inr fun he => ?_
          rcases hnew j2 q2 hq2 hj2 with h3 | h3
          · rw [h3] at he; cases he
          · exact h3 (by rw [hb]; exact he.symm)
    · rcases hset j2 q2 h2 with ⟨rfl, rfl⟩ | ⟨hj2, hq2⟩
      · exact hnew j1 q1 hq1 hj1
      · exact h.apart j1 j2 q1 q2 hq1 hq2 hne
end

/-- Results that are rows of rows, all new. -/
def IsFreshRR {α : Type} (s : Nat) (enc : α → List Value) (el elO : TypeId) (w : World) (L : List (List α)) (v : Value) (w' : World) : Prop :=
  Ext w w' ∧ ∃ a cap rs, v = .slice a rs.length cap ∧ OwnRR s enc el elO w.heap.size w' a cap rs ∧ rs.map (fun r => r.2.2) = L
end Go.Lt
