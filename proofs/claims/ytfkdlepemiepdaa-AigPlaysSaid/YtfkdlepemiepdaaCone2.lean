/- On what literals of a net hang: the program's marks, and the numbers of these. No conditions. -/
import Derived.Test.YtfkdlepemiepdaaCone1
import Derived.Test.YtfkdlepemiepdaaLtFloat
namespace Go.Proofs.Ytfkdlepemiepdaa
open Go Go.Lt Go.RowKit
set_option linter.unusedVariables false
set_option linter.unusedSimpArgs false

def rootL (n : List (Int × Int)) (x : Int) : Prop := 1 < x ∧ x / 2 ≤ n.length
/-- Which are marked once the gates beyond t have been looked at. -/
def MarkP (n : List (Int × Int)) (l : List Int) (t u : Nat) : Prop := ∃ x ∈ l, rootL n x ∧ ((x / 2).toNat = u ∨ ∃ g, t < g ∧ Hang n (x / 2).toNat g ∧ Kid n g u)
noncomputable def markTo (n : List (Int × Int)) (l : List Int) (t : Nat) : List Bool := tab (n.length + 1) (fun u => dec (MarkP n l t u))
noncomputable def rootTo (n : List (Int × Int)) (l : List Int) (k : Nat) : List Bool := tab (n.length + 1) (fun u => dec (∃ x ∈ l.take k, rootL n x ∧ (x / 2).toNat = u))
theorem rootTo_yes {n : List (Int × Int)} {l : List Int} {k : Nat} {x : Int} (hx : l[k]? = some x) (h : rootL n x) : (rootTo n l k).set (x / 2).toNat true = rootTo n l (k + 1) := by
  refine tab_set fun u hu => ?_
  have e := take_ex (p := fun x => rootL n x ∧ (x / 2).toNat = u) hx
  by_cases hux : u = (x / 2).toNat
  · rw [if_pos hux, dec_true (e.2 (.inr ⟨h, hux.symm⟩))]
  · rw [if_neg hux]; exact dec_congr (e.trans ⟨fun h => h.resolve_right (fun hh => hux hh.2.symm), .inl⟩)
theorem rootTo_no {n : List (Int × Int)} {l : List Int} {k : Nat} {x : Int} (hx : l[k]? = some x) (h : ¬ rootL n x) : rootTo n l (k + 1) = rootTo n l k :=
  tab_congr fun u hu => dec_congr ((take_ex (p := fun x => rootL n x ∧ (x / 2).toNat = u) hx).trans ⟨fun h' => h'.resolve_right (fun hh => h hh.1), .inl⟩)
theorem rootTo_mark (n : List (Int × Int)) (l : List Int) : rootTo n l l.length = markTo n l n.length := by
  refine tab_congr fun u hu => dec_congr ?_
  rw [List.take_length]
  constructor
  · rintro ⟨x, hx, h1, h2⟩; exact ⟨x, hx, h1, .inl h2⟩
  · rintro ⟨x, hx, h1, h2 | ⟨g, hg, _, hk⟩⟩
    · exact ⟨x, hx, h1, h2⟩
    · have := hk.le; omega
theorem rootTo_len (n : List (Int × Int)) (l : List Int) (k : Nat) : (rootTo n l k).length = n.length + 1 := tab_len _ _
theorem markTo_len (n : List (Int × Int)) (l : List Int) (k : Nat) : (markTo n l k).length = n.length + 1 := tab_len _ _

theorem mark_at {n : List (Int × Int)} (hg : GoodNet n) (l : List Int) (t : Nat) : MarkP n l t t ↔ ∃ x ∈ l, rootL n x ∧ Hang n (x / 2).toNat t := by
  constructor
  · rintro ⟨x, hx, h1, rfl | ⟨g, hgt, h2, hk⟩⟩
    · exact ⟨x, hx, h1, .refl _⟩
    · exact ⟨x, hx, h1, h2.snoc hk⟩
  · rintro ⟨x, hx, h1, h2⟩
    rcases hang_last h2 with h3 | ⟨g, h3, hk⟩
    · exact ⟨x, hx, h1, .inl h3⟩
    · exact ⟨x, hx, h1, .inr ⟨g, hk.lt hg, h3, hk⟩⟩
theorem mark_succ {n : List (Int × Int)} (hg : GoodNet n) (l : List Int) (t u : Nat) : MarkP n l t u ↔ MarkP n l (t + 1) u ∨ (MarkP n l (t + 1) (t + 1) ∧ Kid n (t + 1) u) := by
  constructor
  · rintro ⟨x, hx, h1, h2 | ⟨g, hgt, h2, hk⟩⟩
    · exact .inl ⟨x, hx, h1, .inl h2⟩
    · by_cases hgt' : g = t + 1
      · subst hgt'
        exact .inr ⟨(mark_at hg l _).2 ⟨x, hx, h1, h2⟩, hk⟩
      · exact .inl ⟨x, hx, h1, .inr ⟨g, by omega, h2, hk⟩⟩
  · rintro (⟨x, hx, h1, h2 | ⟨g, hgt, h2, hk⟩⟩ | ⟨h1, hk⟩)
    · exact ⟨x, hx, h1, .inl h2⟩
    · exact ⟨x, hx, h1, .inr ⟨g, by omega, h2, hk⟩⟩
    · obtain ⟨x, hx, h2, h3⟩ := (mark_at hg l _).1 h1
      exact ⟨x, hx, h2, .inr ⟨t + 1, by omega, h3, hk⟩⟩
theorem kid_node {n : List (Int × Int)} {k : Nat} {x : Int × Int} (hx : n[k]? = some x) (u : Nat) : Kid n (k + 1) u ↔ 0 ≤ x.1 ∧ (u = (x.1 / 2).toNat ∨ u = (x.2 / 2).toNat) := by
  constructor
  · rintro ⟨q, y, hq, hy, h⟩
    obtain rfl : k = q := by omega
    rw [hx] at hy; cases hy
    exact h
  · intro h; exact ⟨k, x, rfl, hx, h⟩
theorem markTo_skip {n : List (Int × Int)} (hg : GoodNet n) {l : List Int} {t : Nat} {x : Int × Int} (hx : n[t]? = some x) (h : ¬ (MarkP n l (t + 1) (t + 1) ∧ 0 ≤ x.1)) : markTo n l t = markTo n l (t + 1) :=
  tab_congr fun u hu => dec_congr ((mark_succ hg l t u).trans ⟨fun h' => h'.resolve_right (fun hh => h ⟨hh.1, ((kid_node hx u).1 hh.2).1⟩), .inl⟩)
theorem markTo_two {n : List (Int × Int)} (hg : GoodNet n) {l : List Int} {t : Nat} {x : Int × Int} (hx : n[t]? = some x) (h : MarkP n l (t + 1) (t + 1)) (h0 : 0 ≤ x.1) :
    ((markTo n l (t + 1)).set (x.1 / 2).toNat true).set (x.2 / 2).toNat true = markTo n l t := by
  have e1 : (markTo n l (t + 1)).set (x.1 / 2).toNat true = tab (n.length + 1) (fun u => if u = (x.1 / 2).toNat then true else dec (MarkP n l (t + 1) u)) := tab_set fun u hu => rfl
  rw [e1]
  refine tab_set fun u hu => ?_
  have e := mark_succ hg l t u
  have hk := kid_node hx u
  by_cases h2 : u = (x.2 / 2).toNat
  · rw [if_pos h2, dec_true (e.2 (.inr ⟨h, hk.2 ⟨h0, .inr h2⟩⟩))]
  · rw [if_neg h2]
    by_cases h1 : u = (x.1 / 2).toNat
    · rw [if_pos h1, dec_true (e.2 (.inr ⟨h, hk.2 ⟨h0, .inl h1⟩⟩))]
    · rw [if_neg h1]
      exact dec_congr (e.trans ⟨fun h' => h'.resolve_right (fun hh => by rcases (hk.1 hh.2).2 with h3 | h3 <;> contradiction), .inl⟩)

noncomputable def markL (n : List (Int × Int)) (l : List Int) : List Bool := tab (n.length + 1) (fun u => dec (OfP n l u))
theorem mark_zero {n : List (Int × Int)} (hg : GoodNet n) (l : List Int) : (markTo n l 0).set 0 false = markL n l := by
  refine tab_set fun u hu => ?_
  by_cases h : u = 0
  · rw [if_pos h]; exact dec_false (fun hh => by have := hh.1; omega)
  · rw [if_neg h]
    refine dec_congr ?_
    constructor
    · rintro ⟨h1, x, hx, h2, h3, _, _, h4⟩
      rcases hang_last h4 with h5 | ⟨g, h5, hk⟩
      · exact ⟨x, hx, ⟨by omega, h3⟩, .inl (by simpa using h5)⟩
      · exact ⟨x, hx, ⟨by omega, h3⟩, .inr ⟨g, by have := hk.le; omega, h5, by simpa using hk⟩⟩
    · rintro ⟨x, hx, ⟨h1, h2⟩, h3⟩
      have h4 : Hang n (x / 2).toNat u := by
        rcases h3 with h3 | ⟨g, _, h3, hk⟩
        · rw [h3]; exact .refl _
        · exact h3.snoc hk
      have := h4.le hg
      exact ⟨by omega, x, hx, by omega, h2, by omega, by omega, by simpa using h4⟩

noncomputable def selB (L : List Bool) : List Int := sel L.length (fun u => L.getD u false = true)
theorem mark_on (n : List (Int × Int)) (l : List Int) : selB (markL n l) = onL n l := by
  unfold selB
  rw [show (markL n l).length = n.length + 1 from tab_len _ _]
  refine sel_congr fun u hu => ?_
  show (tab _ _).getD u false = true ↔ _
  rw [tab_getD _ _ hu]
  exact dec_iff
end Go.Proofs.Ytfkdlepemiepdaa
