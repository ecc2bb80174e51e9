/- What a net's variables are once: the program's words by lane. No conditions. -/
import Derived.Test.YtfkdlepemiepdaaPack
namespace Go.Proofs.Ytfkdlepemiepdaa
open Go Go.Lt Go.RowKit
set_option linter.unusedVariables false
set_option linter.unusedSimpArgs false

abbrev bitsOf (v : List (BitVec 64)) (i : Nat) : List Bool := v.map (fun u => u.getLsbD i)
theorem getD_bits (v : List (BitVec 64)) (i k : Nat) : (bitsOf v i).getD k false = (v.getD k 0#64).getLsbD i := by
  simp only [List.getD, bitsOf, List.getElem?_map]
  cases v[k]? <;> simp
theorem bit_wordOf {v : List (BitVec 64)} {l : Int} {i : Nat} (hv : v.getD 0 0#64 = 0#64) (h0 : 0 ≤ l) (h1 : l / 2 < v.length) (hi : i < 64) : (wordOf v l).getLsbD i = ofL (bitsOf v i) l := by
  rw [wordOf, if_neg (by omega), ofL, getD_bits]
  have hw : (if 0 < l / 2 then v.getD (l / 2).toNat 0#64 else 0#64) = v.getD (l / 2).toNat 0#64 := by
    split
    · rfl
    · rw [show (l / 2).toNat = 0 by omega, hv]
  rw [hw]
  split
  · simp [*]
  · simp [*]
theorem wto_head (n : List (Int × Int)) (W : List (BitVec 64)) : ∀ k, k ≤ n.length → (wto n W k).1.getD 0 0#64 = 0#64
  | 0, _ => by simp [wto]
  | k + 1, h => by
    obtain ⟨x, hx⟩ := getI n (show k < n.length by omega)
    have ih := wto_head n W k (by omega)
    have hl := wto_len n W k (by omega)
    rw [wto_succ W hx]; unfold wstep
    have happ : ∀ y : BitVec 64, ((wto n W k).1 ++ [y]).getD 0 0#64 = (wto n W k).1.getD 0 0#64 := fun y => by
      simp only [List.getD]
      rw [List.getElem?_append_left (by omega)]
    split <;> simp only [happ, ih]
theorem bits_to {n : List (Int × Int)} (hg : GoodNet n) (W : List (BitVec 64)) {i : Nat} (hi : i < 64) : ∀ k, k ≤ n.length → bitsOf (wto n W k).1 i = (vto n (bitsOf W i) k).1 ∧ (wto n W k).2 = (vto n (bitsOf W i) k).2
  | 0, _ => by simp [wto, vto, bitsOf]
  | k + 1, h => by
    obtain ⟨x, hx⟩ := getI n (show k < n.length by omega)
    obtain ⟨ih1, ih2⟩ := bits_to hg W hi k (by omega)
    have hl := wto_len n W k (by omega)
    have hh := wto_head n W k (by omega)
    rw [wto_succ W hx, vto_succ (bitsOf W i) hx]; unfold wstep vstep
    by_cases h0 : 0 ≤ x.1
    · have hgt := hg.gate hx h0
      rw [if_pos h0, if_neg (by omega)]
      refine ⟨?_, ih2⟩
      show bitsOf ((wto n W k).1 ++ [_]) i = _
      rw [bitsOf, List.map_append, List.map_cons, List.map_nil, ← bitsOf, ih1, BitVec.getLsbD_and, bit_wordOf hh h0 (by omega) hi, bit_wordOf hh (by omega) (by omega) hi, ih1]
    · rw [if_neg h0, if_pos (by omega)]
      refine ⟨?_, by show _ + 1 = _ + 1; rw [ih2]⟩
      show bitsOf ((wto n W k).1 ++ [_]) i = _
      rw [bitsOf, List.map_append, List.map_cons, List.map_nil, ← bitsOf, ih1, ← ih2, ← getD_bits]
theorem bits_wvalues {n : List (Int × Int)} (hg : GoodNet n) (W : List (BitVec 64)) {i : Nat} (hi : i < 64) : bitsOf (wvalues n W) i = values n (bitsOf W i) := (bits_to hg W hi n.length (Nat.le_refl _)).1

theorem getD_set {α : Type} (l : List α) (k q : Nat) (y d : α) : (l.set k y).getD q d = if q = k ∧ q < l.length then y else l.getD q d := by
  simp only [List.getD, List.getElem?_set]
  by_cases h : k = q
  · subst h
    by_cases h2 : k < l.length
    · simp [h2]
    · simp [h2]
  · rw [if_neg h, if_neg (fun hh => h hh.1.symm)]
theorem bit_pow (u : BitVec 64) (i t : Nat) (hi : i < 64) : (u ||| (1#64 <<< i)).getLsbD t = (u.getLsbD t || decide (t = i)) := by
  have h : (1#64 <<< i).getLsbD t = decide (t = i) := by
    show (BitVec.twoPow 64 i).getLsbD t = _
    rw [BitVec.getLsbD_twoPow]
    simp [hi, eq_comm]
  rw [BitVec.getLsbD_or, h]
theorem rowTo_bit (v : List (BitVec 64)) (i : Nat) (row : List Bool) (q t : Nat) (hi : i < 64) (ht : t < 64) : ∀ k, ((rowTo v i row k).getD q 0#64).getLsbD t = ((v.getD q 0#64).getLsbD t || (decide (t = i ∧ q < k ∧ q < v.length) && row.getD q false))
  | 0 => by simp [rowTo]
  | k + 1 => by
    have ih := rowTo_bit v i row q t hi ht k
    have hl := rowTo_len v i row k
    unfold rowTo
    by_cases hr : row.getD k false = true
    · rw [if_pos hr, getD_set]
      by_cases hqk : q = k ∧ q < (rowTo v i row k).length
      · obtain ⟨rfl, hq⟩ := hqk
        rw [if_pos ⟨rfl, hq⟩, bit_pow _ _ _ hi, ih, hr]
        rw [hl] at hq
        simp [hq]
      · rw [if_neg hqk, ih]
        congr 2
        rw [decide_eq_decide]
        rw [hl] at hqk
        omega
    · rw [if_neg hr, ih]
      by_cases hqk : q = k
      · subst hqk
        have : row.getD q false = false := by simpa using hr
        rw [this]; simp
      · congr 2
        rw [decide_eq_decide]
        omega
theorem grow_get (v : List (BitVec 64)) (m q : Nat) : (growW v m).getD q 0#64 = v.getD q 0#64 := by
  simp only [growW, List.getD, List.getElem?_append]
  split
  · rfl
  · rename_i h
    rw [List.getElem?_eq_none (l := v) (by omega), List.getElem?_replicate]
    split <;> rfl
theorem pack_bit (rs : List BRow) (q t : Nat) (ht : t < 64) : ∀ i, i ≤ 64 → ((packTo rs i).getD q 0#64).getLsbD t = (decide (t < i) && (rs.getD t (none, 0, [])).2.2.getD q false)
  | 0, _ => by simp [packTo]
  | i + 1, h => by
    rw [packTo, rowTo_bit _ _ _ _ _ (by omega) ht, grow_get, pack_bit rs q t ht i (by omega), growW_len]
    by_cases hti : t = i
    · subst hti
      by_cases hq : q < (rs.getD t (none, 0, [])).2.2.length
      · have : q < max (packTo rs t).length (rs.getD t (none, 0, [])).2.2.length := by omega
        rw [decide_eq_true (show t = t ∧ q < _ ∧ q < _ from ⟨rfl, hq, this⟩), decide_eq_true (Nat.lt_succ_self t)]
        simp
      · have : (rs.getD t (none, 0, [])).2.2.getD q false = false := by rw [List.getD, List.getElem?_eq_none (by omega)]; rfl
        rw [this]; simp
    · have h1 : decide (t < i + 1) = decide (t < i) := by rw [decide_eq_decide]; omega
      rw [h1]; simp [hti]

end Go.Proofs.Ytfkdlepemiepdaa
