/- Trails: what a trail is, and what its functions tell. No conditions. -/
import Derived.Test.YtnbmhibhnfmdeaaLit
import Derived.Test.YtnbmhibhnfmdeaaLtTree
namespace Go.Proofs.Ytnbmhibhnfmdeaa
open Go Go.Lt Go.RowKit
set_option linter.unusedVariables false
set_option linter.unusedSimpArgs false

abbrev T3 := Int × Int × Int
abbrev enc3 : T3 → List Value := fun x => [.int .i64 x.1, .int .i64 x.2.1, .int .i64 x.2.2]
theorem enc3_ok : Enc 3 enc3 := ⟨fun _ => rfl, by intro x u hu; simp only [enc3, List.mem_cons, List.not_mem_nil, or_false] at hu; rcases hu with rfl | rfl | rfl <;> rfl, by decide⟩

/-- Where a variable was set. -/
def plc (v : Int) : List T3 → Option Nat
  | [] => none
  | x :: r => if x.1 / 2 = v then some 0 else (plc v r).map (· + 1)
theorem plc_some {v : Int} : ∀ {L : List T3} {i : Nat}, plc v L = some i → ∃ x, L[i]? = some x ∧ x.1 / 2 = v
  | x :: r, i, h => by
    unfold plc at h
    split at h
    · cases h; exact ⟨x, rfl, by assumption⟩
    · obtain ⟨j, hj, rfl⟩ := Option.map_eq_some_iff.1 h
      obtain ⟨y, h1, h2⟩ := plc_some hj
      exact ⟨y, by simpa using h1, h2⟩
theorem plc_none {v : Int} : ∀ {L : List T3}, plc v L = none ↔ ∀ x ∈ L, x.1 / 2 ≠ v
  | [] => by simp [plc]
  | x :: r => by
    unfold plc
    split
    · rename_i h; simp [h]
    · rename_i h
      rw [Option.map_eq_none_iff, plc_none (L := r)]
      simp [h]
theorem plc_snoc {v : Int} (x : T3) : ∀ (L : List T3), plc v (L ++ [x]) = match plc v L with | some i => some i | none => if x.1 / 2 = v then some L.length else none
  | [] => by simp only [plc, List.nil_append]; split <;> simp
  | y :: r => by
    simp only [List.cons_append, plc, plc_snoc x r]
    split
    · rfl
    · cases plc v r with
      | some i => rfl
      | none => simp only [Option.map_none]; split <;> simp
theorem plc_first {v : Int} {L : List T3} {i : Nat} {x : T3} (hx : L[i]? = some x) (hv : x.1 / 2 = v) (h : ∀ j y, j < i → L[j]? = some y → y.1 / 2 ≠ v) : plc v L = some i := by
  induction L generalizing i with
  | nil => simp at hx
  | cons y r ih =>
    unfold plc
    cases i with
    | zero => simp at hx; subst hx; rw [if_pos hv]
    | succ i =>
      rw [if_neg (h 0 y (by omega) rfl), ih (by simpa using hx) (fun j z hj hz => h (j + 1) z (by omega) (by simpa using hz))]; rfl
/-- Each variable is set but once, and is one. -/
def TOk (n : Int) (L : List T3) : Prop := (∀ x ∈ L, 2 ≤ x.1 ∧ x.1 / 2 ≤ n) ∧ L.Pairwise (fun x y => x.1 / 2 ≠ y.1 / 2)
theorem TOk.inj {n : Int} {L : List T3} (h : TOk n L) {i j : Nat} {x y : T3} (hx : L[i]? = some x) (hy : L[j]? = some y) (he : x.1 / 2 = y.1 / 2) : i = j := by
  have hp := List.pairwise_iff_getElem.1 h.2
  obtain ⟨hi, rfl⟩ := List.getElem?_eq_some_iff.1 hx
  obtain ⟨hj, rfl⟩ := List.getElem?_eq_some_iff.1 hy
  rcases Nat.lt_trichotomy i j with h1 | h1 | h1
  · exact absurd he (hp i j hi hj h1)
  · exact h1
  · exact absurd he.symm (hp j i hj hi h1)
theorem TOk.at_ {n : Int} {L : List T3} (h : TOk n L) {i : Nat} {x : T3} (hx : L[i]? = some x) : plc (x.1 / 2) L = some i :=
  plc_first hx rfl fun j y hj hy he => by have := h.inj hx hy he.symm; omega
theorem TOk.sub {n : Int} {L L' : List T3} (h : TOk n L) (hs : L'.Sublist L) : TOk n L' := ⟨fun x hx => h.1 x (hs.subset hx), h.2.sublist hs⟩
theorem TOk.nil (n : Int) : TOk n [] := ⟨by simp, List.Pairwise.nil⟩
/-- A literal's value. -/
def valT (n : Int) (L : List T3) (l : Int) : Int :=
  if l = 0 ∨ l = 1 then l else
  match (if 1 < l ∧ l / 2 ≤ n then plc (l / 2) L else none) with
  | some i => (match L[i]? with | some x => if x.1 = l then 1 else 0 | none => 2)
  | none => 2
theorem valT_range (n : Int) (L : List T3) (l : Int) : valT n L l = 0 ∨ valT n L l = 1 ∨ valT n L l = 2 := by
  unfold valT
  split
  · omega
  · split
    · split
      · split <;> omega
      · omega
    · omega
/-- All variables' values. -/
def vOf (n : Nat) (L : List T3) : List Int := tab (n + 1) fun v => if v = 0 then 0 else valT n L (2 * v)
theorem vOf_len (n : Nat) (L : List T3) : (vOf n L).length = n + 1 := tab_len _ _
theorem valT_set {n : Int} {L : List T3} (h : TOk n L) {l : Int} (hl : 1 < l ∧ l / 2 ≤ n) {i : Nat} {x : T3} (hx : L[i]? = some x) (he : x.1 / 2 = l / 2) : valT n L l = if x.1 = l then 1 else 0 := by
  unfold valT
  rw [if_neg (by omega), if_pos hl, ← he, h.at_ hx]
  simp only [hx]
theorem valT_free {n : Int} {L : List T3} {l : Int} (hl : 1 < l) (hp : plc (l / 2) L = none) : valT n L l = 2 := by
  unfold valT
  rw [if_neg (by omega), hp]
  split <;> simp_all
theorem valT_out {n : Int} {L : List T3} {l : Int} (h : l < 0 ∨ n < l / 2 ∧ 1 < l) : valT n L l = 2 := by
  unfold valT
  rw [if_neg (by omega), if_neg (by omega)]
theorem valT_not {n : Int} {L : List T3} (h : TOk n L) {l : Int} (hl : 0 ≤ l) (ho : l % 2 = 1) : valT n L l = not3 (valT n L (l - 1)) := by
  by_cases h1 : l = 1
  · subst h1; simp [valT, not3]
  · by_cases hn : l / 2 ≤ n
    · cases hp : plc (l / 2) L with
      | none => rw [valT_free (by omega) hp, valT_free (by omega) (by rw [show (l - 1) / 2 = l / 2 by omega]; exact hp)]; rfl
      | some i =>
        obtain ⟨x, hx, hv⟩ := plc_some hp
        rw [valT_set h ⟨by omega, hn⟩ hx hv, valT_set h ⟨by omega, by omega⟩ hx (by omega)]
        by_cases he : x.1 = l
        · rw [if_pos he, if_neg (by omega)]; rfl
        · rw [if_neg he, if_pos (by omega)]; rfl
    · rw [valT_out (by omega), valT_out (by omega)]; rfl
theorem lit3_vOf {n : Nat} {L : List T3} (h : TOk n L) (hn : n ≤ 1048576) (l : Int) : lit3 (vOf n L) l = valT n L l := by
  have key : ∀ v : Int, 0 ≤ v → v / 2 ≤ n → v % 2 = 0 → (vOf n L).getD (v / 2).toNat 0 = valT n L v := by
    intro v h0 h1 h2
    rw [vOf, tab_getD _ _ (by omega)]
    by_cases hv : v = 0
    · subst hv; simp [valT]
    · rw [if_neg (by omega)]; congr 1; omega
  have hlen := vOf_len n L
  by_cases hg : goodL l
  · unfold goodL at hg
    have e0 : varL l = l / 2 := by unfold varL; rw [if_pos (by unfold goodL; omega)]
    have ek : lit3v (vOf n L) l = valT n L (l - l % 2) := by
      unfold lit3v
      rw [e0]
      by_cases hz : l / 2 = 0
      · rw [if_pos hz, show l - l % 2 = 0 by omega]; simp [valT]
      · rw [if_neg hz]
        by_cases hb : l / 2 ≤ n
        · have e1 := key (l - l % 2) (by omega) (by omega) (by omega)
          rw [show (l - l % 2) / 2 = l / 2 by omega] at e1
          rw [e1]
          have hr := valT_range n L (l - l % 2)
          rw [if_pos ⟨by omega, by omega⟩, val3]
          split <;> omega
        · rw [if_neg (fun hh => by omega), valT_out (by omega)]
    unfold lit3
    by_cases ho : l % 2 = 1
    · rw [if_pos (by unfold negL goodL; omega), ek, valT_not h (by omega) ho, show l - l % 2 = l - 1 by omega]
    · rw [if_neg (by unfold negL goodL; omega), ek, show l - l % 2 = l by omega]
  · unfold goodL at hg
    have e0 : varL l = -1 := by unfold varL; rw [if_neg (by unfold goodL; omega)]
    have ek : lit3v (vOf n L) l = 2 := by unfold lit3v; rw [e0, if_neg (by decide), if_neg (by omega)]
    unfold lit3
    rw [ek, if_neg (by unfold negL goodL; omega), valT_out (by omega)]
end Go.Proofs.Ytnbmhibhnfmdeaa
