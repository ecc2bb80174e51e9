/- Values of a net's variables, node by node; lists of what the inputs are. No conditions. -/
import Derived.Test.YtfkdlepemiepdaaNet
namespace Go.Proofs.Ytfkdlepemiepdaa
open Go Go.Lt Go.RowKit
set_option linter.unusedVariables false
set_option linter.unusedSimpArgs false

theorem values_len' (n : List (Int × Int)) (ins : List Bool) : (values n ins).length = n.length + 1 := (vto_len n ins n.length (Nat.le_refl _)).1
/-- How many inputs stand ahead of a node. -/
def cnt (n : List (Int × Int)) : Nat → Nat
  | 0 => 0
  | k + 1 => match n[k]? with | some x => if x.1 < 0 then cnt n k + 1 else cnt n k | none => cnt n k
theorem cnt_le (n : List (Int × Int)) : ∀ k, cnt n k ≤ k
  | 0 => Nat.le_refl _
  | k + 1 => by
    have := cnt_le n k
    unfold cnt
    split
    · split <;> omega
    · omega
theorem cnt_mono (n : List (Int × Int)) : ∀ {i k}, i ≤ k → cnt n i ≤ cnt n k
  | i, 0, h => by obtain rfl : i = 0 := by omega
                  exact Nat.le_refl _
  | i, k + 1, h => by
    by_cases hik : i = k + 1
    · subst hik; exact Nat.le_refl _
    · refine Nat.le_trans (cnt_mono n (show i ≤ k by omega)) ?_
      rw [cnt]
      split
      · split <;> omega
      · omega
theorem cnt_in {n : List (Int × Int)} {k : Nat} {x : Int × Int} (h : n[k]? = some x) (hx : x.1 < 0) : cnt n (k + 1) = cnt n k + 1 := by rw [cnt, h]; exact if_pos hx
theorem cnt_gate {n : List (Int × Int)} {k : Nat} {x : Int × Int} (h : n[k]? = some x) (hx : ¬ x.1 < 0) : cnt n (k + 1) = cnt n k := by rw [cnt, h]; exact if_neg hx
theorem vto_cnt (n : List (Int × Int)) (ins : List Bool) : ∀ k, k ≤ n.length → (vto n ins k).2 = cnt n k
  | 0, _ => rfl
  | k + 1, h => by
    obtain ⟨x, hx⟩ := getI n (show k < n.length by omega)
    rw [vto_succ ins hx, vstep]
    split
    · rw [cnt_in hx (by assumption), ← vto_cnt n ins k (by omega)]
    · rw [cnt_gate hx (by assumption), ← vto_cnt n ins k (by omega)]
theorem vto_pre (n : List (Int × Int)) (ins : List Bool) {j : Nat} : ∀ {k}, j ≤ k → k ≤ n.length → (vto n ins k).1.getD j false = (vto n ins j).1.getD j false
  | 0, h, _ => by obtain rfl : j = 0 := by omega
                  rfl
  | k + 1, h, hk => by
    by_cases hjk : j = k + 1
    · subst hjk; rfl
    · obtain ⟨x, hx⟩ := getI n (show k < n.length by omega)
      rw [← vto_pre n ins (show j ≤ k by omega) (by omega), vto_succ ins hx]
      have hl := (vto_len n ins k (by omega)).1
      unfold vstep
      split <;> (simp only [List.getD]; rw [List.getElem?_append_left (by omega)])
theorem vto_val (n : List (Int × Int)) (ins : List Bool) {j k : Nat} (h : j ≤ k) (hk : k ≤ n.length) : (vto n ins k).1.getD j false = (values n ins).getD j false := by
  rw [vto_pre n ins h hk, values, vto_pre n ins (show j ≤ n.length by omega) (Nat.le_refl _)]
theorem vto_of (n : List (Int × Int)) (ins : List Bool) {l : Int} {k : Nat} (h : (l / 2).toNat ≤ k) (hk : k ≤ n.length) : ofL (vto n ins k).1 l = ofL (values n ins) l := by
  unfold ofL; rw [vto_val n ins h hk]
theorem values_zero (n : List (Int × Int)) (ins : List Bool) : (values n ins).getD 0 false = false := by
  rw [← vto_val n ins (Nat.le_refl 0) (Nat.zero_le _)]; rfl
theorem values_in {n : List (Int × Int)} {k : Nat} {x : Int × Int} (ins : List Bool) (h : n[k]? = some x) (hx : x.1 < 0) : (values n ins).getD (k + 1) false = ins.getD (cnt n k) false := by
  have hk := lt_of_get h
  have hl := (vto_len n ins k (by omega)).1
  rw [← vto_val n ins (Nat.le_refl (k + 1)) (by omega), vto_succ ins h, vstep, if_pos hx, vto_cnt n ins k (by omega)]
  simp only [List.getD]
  rw [List.getElem?_append_right (by omega), hl]; simp
theorem values_gate {n : List (Int × Int)} (hg : GoodNet n) {k : Nat} {x : Int × Int} (ins : List Bool) (h : n[k]? = some x) (hx : 0 ≤ x.1) : (values n ins).getD (k + 1) false = (ofL (values n ins) x.1 && ofL (values n ins) x.2) := by
  have hk := lt_of_get h
  have hl := (vto_len n ins k (by omega)).1
  have hgt := hg.gate h hx
  rw [← vto_val n ins (Nat.le_refl (k + 1)) (by omega), vto_succ ins h, vstep, if_neg (by omega), vto_of n ins (by omega) (by omega), vto_of n ins (by omega) (by omega)]
  simp only [List.getD]
  rw [List.getElem?_append_right (by omega), hl]; simp

/-- What the inputs among the first nodes are, by node. -/
def insTo {α : Type} (n : List (Int × Int)) (f : Nat → α) : Nat → List α
  | 0 => []
  | k + 1 => match n[k]? with | some x => if x.1 < 0 then insTo n f k ++ [f k] else insTo n f k | none => insTo n f k
theorem insTo_in {α : Type} {n : List (Int × Int)} {f : Nat → α} {k : Nat} {x : Int × Int} (h : n[k]? = some x) (hx : x.1 < 0) : insTo n f (k + 1) = insTo n f k ++ [f k] := by rw [insTo, h]; exact if_pos hx
theorem insTo_gate {α : Type} {n : List (Int × Int)} {f : Nat → α} {k : Nat} {x : Int × Int} (h : n[k]? = some x) (hx : ¬ x.1 < 0) : insTo n f (k + 1) = insTo n f k := by rw [insTo, h]; exact if_neg hx
theorem insTo_len {α : Type} (n : List (Int × Int)) (f : Nat → α) : ∀ k, (insTo n f k).length = cnt n k
  | 0 => rfl
  | k + 1 => by
    unfold insTo cnt
    cases n[k]? with
    | none => exact insTo_len n f k
    | some x =>
      show (if x.1 < 0 then insTo n f k ++ [f k] else insTo n f k).length = if x.1 < 0 then cnt n k + 1 else cnt n k
      split
      · rw [List.length_append, insTo_len n f k]; rfl
      · exact insTo_len n f k
theorem insTo_get {α : Type} {n : List (Int × Int)} (f : Nat → α) {i : Nat} {x : Int × Int} (h : n[i]? = some x) (hx : x.1 < 0) : ∀ {k}, i < k → (insTo n f k)[cnt n i]? = some (f i)
  | k + 1, hik => by
    by_cases hi : i = k
    · subst hi
      rw [insTo_in h hx, List.getElem?_append_right (by rw [insTo_len]; exact Nat.le_refl _), insTo_len, Nat.sub_self]; rfl
    · have ih := insTo_get f h hx (show i < k by omega)
      have hlt := lt_of_get ih
      unfold insTo
      cases n[k]? with
      | none => exact ih
      | some y =>
        show (if y.1 < 0 then insTo n f k ++ [f k] else insTo n f k)[cnt n i]? = _
        split
        · rw [List.getElem?_append_left hlt]; exact ih
        · exact ih
end Go.Proofs.Ytfkdlepemiepdaa
