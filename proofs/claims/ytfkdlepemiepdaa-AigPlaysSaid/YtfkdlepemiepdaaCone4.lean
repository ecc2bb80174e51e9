/- What hangs on a variable; levels; how deep literals are: the program's and the reference's. No conditions. -/
import Derived.Test.YtfkdlepemiepdaaCone3
namespace Go.Proofs.Ytfkdlepemiepdaa
open Go Go.Lt Go.RowKit
set_option linter.unusedVariables false
set_option linter.unusedSimpArgs false

theorem sel_none {m : Nat} {p : Nat → Prop} (h : ∀ u, u < m → ¬ p u) : sel m p = [] := by
  induction m with
  | zero => rfl
  | succ m ih => rw [sel_no (h m (by omega)), ih (fun u hu => h u (by omega))]
def AboveP (n : List (Int × Int)) (v : Int) (u : Nat) : Prop := 1 ≤ u ∧ HangL n (2 * (u : Int)) v
noncomputable def aboveL (n : List (Int × Int)) (v : Int) : List Int := sel (n.length + 1) (AboveP n v)
theorem above_out {n : List (Int × Int)} {v : Int} (h : v < 1 ∨ n.length < v) : aboveL n v = [] := sel_none fun u hu ⟨h1, h2⟩ => by
  have := h2.2.2.1; have := h2.2.2.2.1; omega
theorem above_in {n : List (Int × Int)} (hg : GoodNet n) {v : Nat} (h : 1 ≤ v) : selB (inH n v n.length) = aboveL n v := by
  unfold selB
  rw [inH_len]
  refine sel_congr fun u hu => ?_
  rw [inH, tab_getD _ _ hu, dec_iff]
  constructor
  · rintro ⟨h1, h2⟩
    have := h2.le hg
    exact ⟨by omega, by omega, by omega, by omega, by omega, by rw [show (2 * (u : Int) / 2).toNat = u by omega, Int.toNat_natCast]; exact h2⟩
  · rintro ⟨h1, h2⟩
    have h3 := h2.2.2.2.2
    rw [show (2 * (u : Int) / 2).toNat = u by omega, Int.toNat_natCast] at h3
    exact ⟨by omega, h3⟩
theorem inH_skip {n : List (Int × Int)} {v i : Nat} (h : ¬ Hang n (i + 1) v) : inH n v (i + 1) = inH n v i := by
  refine tab_congr fun u hu => dec_congr ⟨fun ⟨h1, h2⟩ => ⟨?_, h2⟩, fun ⟨h1, h2⟩ => ⟨by omega, h2⟩⟩
  by_cases hui : u = i + 1
  · subst hui; exact absurd h2 h
  · omega

/-! ### Levels -/
def lstep (s : List Int) (x : Int × Int) : List Int := s ++ [if 0 ≤ x.1 then 1 + max (s.getD (x.1 / 2).toNat 0) (s.getD (x.2 / 2).toNat 0) else 0]
def lto (n : List (Int × Int)) (k : Nat) : List Int := (n.take k).foldl lstep [0]
def levels (n : List (Int × Int)) : List Int := lto n n.length
theorem lto_succ {n : List (Int × Int)} {k : Nat} {x : Int × Int} (h : n[k]? = some x) : lto n (k + 1) = lstep (lto n k) x := by
  unfold lto; rw [take_succ' h, List.foldl_append]; rfl
theorem lto_len (n : List (Int × Int)) : ∀ k, k ≤ n.length → (lto n k).length = k + 1
  | 0, _ => by simp [lto]
  | k + 1, h => by
    obtain ⟨x, hx⟩ := getI n (show k < n.length by omega)
    rw [lto_succ hx, lstep, List.length_append, lto_len n k (by omega)]; rfl
theorem lto_le (n : List (Int × Int)) : ∀ k, k ≤ n.length → ∀ v, 0 ≤ (lto n k).getD v 0 ∧ (lto n k).getD v 0 ≤ k
  | 0, _, v => by
    match v with
    | 0 => simp [lto]
    | v + 1 => simp [lto]
  | k + 1, h, v => by
    obtain ⟨x, hx⟩ := getI n (show k < n.length by omega)
    have ih := lto_le n k (by omega)
    have hl := lto_len n k (by omega)
    rw [lto_succ hx, lstep, List.getD, List.getElem?_append]
    split
    · have := ih v; rw [List.getD] at this; omega
    · have i1 := ih (x.1 / 2).toNat
      have i2 := ih (x.2 / 2).toNat
      by_cases hv : v = (lto n k).length
      · subst hv
        simp only [Nat.sub_self, List.getElem?_cons_zero, Option.getD_some]
        split <;> omega
      · rw [List.getElem?_eq_none (by simp; omega)]; simp; omega
theorem set_fill {α : Type} (L : List α) (m : Nat) (d x : α) : (L ++ List.replicate (m + 1) d).set L.length x = (L ++ [x]) ++ List.replicate m d := by
  rw [List.set_append_right _ _ (Nat.le_refl _), Nat.sub_self, List.replicate_succ, List.set_cons_zero, List.append_assoc]; rfl
def lfill (n : List (Int × Int)) (k : Nat) : List Int := lto n k ++ List.replicate (n.length - k) 0
theorem lfill_len (n : List (Int × Int)) (k : Nat) (h : k ≤ n.length) : (lfill n k).length = n.length + 1 := by
  rw [lfill, List.length_append, lto_len n k h, List.length_replicate]; omega
theorem lfill_get {n : List (Int × Int)} {k j : Nat} (h : k ≤ n.length) (hj : j ≤ k) : (lfill n k)[j]? = some ((lto n k).getD j 0) := by
  have hl := lto_len n k h
  obtain ⟨z, hz⟩ := getI (lto n k) (show j < _ by omega)
  rw [lfill, List.getElem?_append_left (by omega), hz, getD_of hz]
theorem lfill_set {n : List (Int × Int)} {k : Nat} {x : Int × Int} (hx : n[k]? = some x) (h0 : 0 ≤ x.1) : (lfill n k).set (k + 1) (1 + max ((lto n k).getD (x.1 / 2).toNat 0) ((lto n k).getD (x.2 / 2).toNat 0)) = lfill n (k + 1) := by
  have hk := lt_of_get hx
  have hl := lto_len n k (by omega)
  rw [lfill, lfill, lto_succ hx, lstep, if_pos h0, show n.length - k = (n.length - (k + 1)) + 1 by omega, ← hl, set_fill]
theorem lfill_skip {n : List (Int × Int)} {k : Nat} {x : Int × Int} (hx : n[k]? = some x) (h0 : ¬ 0 ≤ x.1) : lfill n (k + 1) = lfill n k := by
  have hk := lt_of_get hx
  rw [lfill, lfill, lto_succ hx, lstep, if_neg h0, show n.length - k = (n.length - (k + 1)) + 1 by omega, List.replicate_succ, List.append_assoc]; rfl

end Go.Proofs.Ytfkdlepemiepdaa
