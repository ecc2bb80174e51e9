/- Values when inputs may be open, node by node; what is dropped. No conditions. -/
import Derived.Test.YtfkdlepemiepdaaTern1
import Derived.Test.YtfkdlepemiepdaaVals
namespace Go.Proofs.Ytfkdlepemiepdaa
open Go Go.Lt Go.RowKit
set_option linter.unusedVariables false
set_option linter.unusedSimpArgs false

theorem tvals_len (n : List (Int × Int)) (ins : List Int) : (tvals n ins).length = n.length + 1 := (tto_len n ins n.length (Nat.le_refl _)).1
theorem tto_cnt (n : List (Int × Int)) (ins : List Int) : ∀ k, k ≤ n.length → (tto n ins k).2 = cnt n k
  | 0, _ => rfl
  | k + 1, h => by
    obtain ⟨x, hx⟩ := getI n (show k < n.length by omega)
    rw [tto_succ ins hx, tstep]
    split
    · rw [cnt_gate hx (by omega), ← tto_cnt n ins k (by omega)]
    · rw [cnt_in hx (by omega), ← tto_cnt n ins k (by omega)]
theorem tto_pre (n : List (Int × Int)) (ins : List Int) {j : Nat} : ∀ {k}, j ≤ k → k ≤ n.length → (tto n ins k).1.getD j 0 = (tto n ins j).1.getD j 0
  | 0, h, _ => by obtain rfl : j = 0 := by omega
                  rfl
  | k + 1, h, hk => by
    by_cases hjk : j = k + 1
    · subst hjk; rfl
    · obtain ⟨x, hx⟩ := getI n (show k < n.length by omega)
      rw [← tto_pre n ins (show j ≤ k by omega) (by omega), tto_succ ins hx]
      have hl := (tto_len n ins k (by omega)).1
      unfold tstep
      split <;> (simp only [List.getD]; rw [List.getElem?_append_left (by omega)])
theorem tto_val (n : List (Int × Int)) (ins : List Int) {j k : Nat} (h : j ≤ k) (hk : k ≤ n.length) : (tto n ins k).1.getD j 0 = (tvals n ins).getD j 0 := by
  rw [tto_pre n ins h hk, tvals, tto_pre n ins (show j ≤ n.length by omega) (Nat.le_refl _)]
theorem tvals_zero (n : List (Int × Int)) (ins : List Int) : (tvals n ins).getD 0 0 = 0 := by
  rw [← tto_val n ins (Nat.le_refl 0) (Nat.zero_le _)]; rfl
theorem tvals_in {n : List (Int × Int)} {k : Nat} {x : Int × Int} (ins : List Int) (h : n[k]? = some x) (hx : x.1 < 0) : (tvals n ins).getD (k + 1) 0 = tin ins (cnt n k) := by
  have hk := lt_of_get h
  have hl := (tto_len n ins k (by omega)).1
  rw [← tto_val n ins (Nat.le_refl (k + 1)) (by omega), tto_succ ins h, tstep, if_neg (by omega), tto_cnt n ins k (by omega)]
  simp only [List.getD]
  rw [List.getElem?_append_right (by omega), hl]; simp
/-- A literal's value, of a list whose variable 0 is 0. -/
def tl (s : List Int) (x : Int) : Int := if x % 2 = 1 then not3 (val3 (s.getD (x / 2).toNat 0)) else val3 (s.getD (x / 2).toNat 0)
theorem lit3_tl {s : List Int} (h0 : s.getD 0 0 = 0) {x : Int} (hx : 0 ≤ x) (hl : (x / 2).toNat < s.length) (hm : x ≤ 33554433) : lit3 s x = tl s x := by
  have hg : goodL x := ⟨hx, hm⟩
  have hv : varL x = x / 2 := by unfold varL; rw [if_pos hg]
  have hb : lit3v s x = val3 (s.getD (x / 2).toNat 0) := by
    unfold lit3v
    rw [hv]
    by_cases h : x / 2 = 0
    · rw [if_pos h, show (x / 2).toNat = 0 by omega, h0]; rfl
    · rw [if_neg h, if_pos (by omega)]
  unfold lit3 tl
  by_cases h1 : x % 2 = 1
  · rw [if_pos ⟨hg, h1⟩, if_pos h1, hb]
  · rw [if_neg (fun h => h1 h.2), if_neg h1, hb]
theorem tvals_gate {n : List (Int × Int)} (hg : GoodNet n) (hn : n.length ≤ 1048576) {k : Nat} {x : Int × Int} (ins : List Int) (h : n[k]? = some x) (hx : 0 ≤ x.1) : (tvals n ins).getD (k + 1) 0 = and3 (tl (tvals n ins) x.1) (tl (tvals n ins) x.2) := by
  have hk := lt_of_get h
  have hl := (tto_len n ins k (by omega)).1
  have hgt := hg.gate h hx
  have e : ∀ y : Int, 0 ≤ y → y ≤ 2 * k + 1 → lit3 (tto n ins k).1 y = tl (tvals n ins) y := by
    intro y h1 h2
    rw [lit3_tl (by rw [tto_val n ins (Nat.zero_le _) (by omega), tvals_zero]) h1 (by omega) (by omega)]
    unfold tl
    rw [tto_val n ins (by omega) (by omega)]
  rw [← tto_val n ins (Nat.le_refl (k + 1)) (by omega), tto_succ ins h, tstep, if_pos hx, e _ hx hgt.1, e _ hgt.2.1 hgt.2.2]
  simp only [List.getD]
  rw [List.getElem?_append_right (by omega), hl]; simp
theorem tvals_three {n : List (Int × Int)} (hg : GoodNet n) (hn : n.length ≤ 1048576) (ins : List Int) (v : Nat) : val3 ((tvals n ins).getD v 0) = (tvals n ins).getD v 0 := by
  by_cases hv : v ≤ n.length
  · match v, hv with
    | 0, _ => rw [tvals_zero]; rfl
    | k + 1, hv =>
      obtain ⟨x, hx⟩ := getI n (show k < n.length by omega)
      by_cases hin : x.1 < 0
      · rw [tvals_in ins hx hin, tin]; grind [val3]
      · rw [tvals_gate hg hn ins hx (by omega)]; grind [and3, val3]
  · rw [List.getD, List.getElem?_eq_none (by rw [tvals_len]; omega)]; rfl

/-- One says no more than the other one. -/
def le3 (a b : Int) : Prop := a = 2 ∨ a = b
theorem le3_not {a b : Int} (h : le3 (val3 a) (val3 b)) : le3 (not3 (val3 a)) (not3 (val3 b)) := by
  rcases h with h | h
  · rw [h]; exact .inl rfl
  · rw [h]; exact .inr rfl
theorem le3_and {a b c d : Int} (ha : le3 a b) (hc : le3 c d) (hb : b = 0 ∨ b = 1 ∨ b = 2) (hd : d = 0 ∨ d = 1 ∨ d = 2) : le3 (and3 a c) (and3 b d) := by
  rcases ha with rfl | rfl <;> rcases hc with rfl | rfl <;> rcases hb with rfl | rfl | rfl <;> rcases hd with rfl | rfl | rfl <;> simp [le3, and3]
theorem val3_three (a : Int) : val3 a = 0 ∨ val3 a = 1 ∨ val3 a = 2 := by unfold val3; split <;> omega
theorem not3_three (a : Int) : not3 (val3 a) = 0 ∨ not3 (val3 a) = 1 ∨ not3 (val3 a) = 2 := by rcases val3_three a with h | h | h <;> rw [h] <;> simp [not3]
theorem tl_three (s : List Int) (x : Int) : tl s x = 0 ∨ tl s x = 1 ∨ tl s x = 2 := by unfold tl; split; exact not3_three _; exact val3_three _
theorem tl_mono {s t : List Int} (h : ∀ i, le3 (val3 (s.getD i 0)) (val3 (t.getD i 0))) (x : Int) : le3 (tl s x) (tl t x) := by
  unfold tl; split; exact le3_not (h _); exact h _
theorem tvals_mono {n : List (Int × Int)} (hg : GoodNet n) (hn : n.length ≤ 1048576) {a b : List Int} (h : ∀ c, le3 (tin a c) (tin b c)) : ∀ v, le3 (val3 ((tvals n a).getD v 0)) (val3 ((tvals n b).getD v 0)) := by
  intro v
  induction v using Nat.strongRecOn with
  | _ v ih =>
    by_cases hv : v ≤ n.length
    · match v, ih, hv with
      | 0, _, _ => rw [tvals_zero, tvals_zero]; exact .inr rfl
      | k + 1, ih, hv =>
        obtain ⟨x, hx⟩ := getI n (show k < n.length by omega)
        rw [tvals_three hg hn, tvals_three hg hn]
        by_cases hin : x.1 < 0
        · rw [tvals_in a hx hin, tvals_in b hx hin]; exact h _
        · have hgt := hg.gate hx (by omega)
          rw [tvals_gate hg hn a hx (by omega), tvals_gate hg hn b hx (by omega)]
          have e : ∀ y : Int, 0 ≤ y → y ≤ 2 * k + 1 → le3 (tl (tvals n a) y) (tl (tvals n b) y) := by
            intro y h1 h2
            have := ih (y / 2).toNat (by omega)
            unfold tl; split; exact le3_not this; exact this
          exact le3_and (e _ (by omega) hgt.1) (e _ hgt.2.1 hgt.2.2) (tl_three _ _) (tl_three _ _)
    · rw [List.getD, List.getD, List.getElem?_eq_none (by rw [tvals_len]; omega), List.getElem?_eq_none (by rw [tvals_len]; omega)]; exact .inr rfl
theorem lit3_mono {s t : List Int} (hl : s.length = t.length) (h : ∀ i, le3 (val3 (s.getD i 0)) (val3 (t.getD i 0))) (x : Int) (h1 : lit3 s x = 1) : lit3 t x = 1 := by
  have hv : ∀ a b : Int, le3 a b → a ≠ 2 → a = b := fun a b h h2 => h.resolve_left h2
  unfold lit3 at h1 ⊢
  have hlv : le3 (lit3v s x) (lit3v t x) := by
    unfold lit3v
    split
    · exact .inr rfl
    · rw [hl]
      split
      · exact h _
      · exact .inr rfl
  by_cases hn : negL x
  · rw [if_pos hn] at h1 ⊢
    rcases hlv with h2 | h2
    · rw [h2] at h1; simp [not3] at h1
    · rw [← h2]; exact h1
  · rw [if_neg hn] at h1 ⊢
    rcases hlv with h2 | h2
    · rw [h2] at h1; omega
    · rw [← h2]; exact h1
theorem sure_mono {n : List (Int × Int)} (hg : GoodNet n) (hn : n.length ≤ 1048576) {a b l : List Int} (h : ∀ c, le3 (tin a c) (tin b c)) (hs : SureP n a l) : SureP n b l := fun x hx =>
  lit3_mono (by rw [tvals_len, tvals_len]) (tvals_mono hg hn h) x (hs x hx)

/-- What is not open is so, whatever the open inputs are. -/
theorem tern_sound {n : List (Int × Int)} (hg : GoodNet n) (hn : n.length ≤ 1048576) {ins : List Int} {full : List Bool} (h : ∀ k x, n[k]? = some x → x.1 < 0 → (tin ins (cnt n k) = 0 → full.getD (cnt n k) false = false) ∧ (tin ins (cnt n k) = 1 → full.getD (cnt n k) false = true)) :
    ∀ v, v ≤ n.length → ((tvals n ins).getD v 0 = 0 → (values n full).getD v false = false) ∧ ((tvals n ins).getD v 0 = 1 → (values n full).getD v false = true) := by
  intro v
  induction v using Nat.strongRecOn with
  | _ v ih =>
    intro hv
    match v, ih, hv with
    | 0, _, _ => rw [values_zero, tvals_zero]; exact ⟨fun _ => rfl, fun h => by omega⟩
    | k + 1, ih, hv =>
      obtain ⟨x, hx⟩ := getI n (show k < n.length by omega)
      by_cases hin : x.1 < 0
      · rw [tvals_in ins hx hin, values_in full hx hin]
        exact h k x hx hin
      · have hgt := hg.gate hx (by omega)
        rw [tvals_gate hg hn ins hx (by omega), values_gate hg full hx (by omega)]
        have e : ∀ y : Int, 0 ≤ y → y ≤ 2 * k + 1 → (tl (tvals n ins) y = 0 → ofL (values n full) y = false) ∧ (tl (tvals n ins) y = 1 → ofL (values n full) y = true) := by
          intro y h1 h2
          have := ih (y / 2).toNat (by omega) (by omega)
          unfold tl ofL
          rw [tvals_three hg hn]
          by_cases hy : y % 2 = 1
          · rw [if_pos hy, decide_eq_true hy]
            unfold not3
            constructor
            · intro h3; rw [this.2 (by split at h3 <;> (try split at h3) <;> omega)]; rfl
            · intro h3; rw [this.1 (by split at h3 <;> (try split at h3) <;> omega)]; rfl
          · rw [if_neg hy, decide_eq_false hy]
            exact ⟨fun h3 => by rw [this.1 h3]; rfl, fun h3 => by rw [this.2 h3]; rfl⟩
        have e1 := e x.1 (by omega) hgt.1
        have e2 := e x.2 hgt.2.1 hgt.2.2
        unfold and3
        constructor
        · intro h3
          have : tl (tvals n ins) x.1 = 0 ∨ tl (tvals n ins) x.2 = 0 := by
            split at h3
            · assumption
            · split at h3 <;> omega
          rcases this with h4 | h4
          · rw [e1.1 h4]; rfl
          · rw [e2.1 h4, Bool.and_false]
        · intro h3
          have : tl (tvals n ins) x.1 = 1 ∧ tl (tvals n ins) x.2 = 1 := by
            split at h3
            · omega
            · split at h3
              · assumption
              · omega
          rw [e1.2 this.1, e2.2 this.2]; rfl

/-! ### What is dropped -/
open Classical in
noncomputable def dstep (n : List (Int × Int)) (l : List Int) (keep : List Bool) (out : List Int) (k : Nat) : List Int :=
  if out.getD k 0 = 2 ∨ keep.getD k false = true then out else if SureP n (out.set k 2) l then out.set k 2 else out
noncomputable def dropTo (n : List (Int × Int)) (ins l : List Int) (keep : List Bool) : Nat → List Int
  | 0 => tab (cnt n n.length) (tin ins)
  | k + 1 => dstep n l keep (dropTo n ins l keep k) k
open Classical in
noncomputable def dropL (n : List (Int × Int)) (ins l : List Int) (keep : List Bool) : List Int :=
  if SureP n (tab (cnt n n.length) (tin ins)) l then dropTo n ins l keep (cnt n n.length) else []
theorem dropTo_len (n : List (Int × Int)) (ins l : List Int) (keep : List Bool) : ∀ k, (dropTo n ins l keep k).length = cnt n n.length
  | 0 => tab_len _ _
  | k + 1 => by
    rw [dropTo, dstep]
    split
    · exact dropTo_len n ins l keep k
    · split
      · rw [List.length_set]; exact dropTo_len n ins l keep k
      · exact dropTo_len n ins l keep k
theorem dropTo_sure {n : List (Int × Int)} {ins l : List Int} {keep : List Bool} (h : SureP n (tab (cnt n n.length) (tin ins)) l) : ∀ k, SureP n (dropTo n ins l keep k) l
  | 0 => h
  | k + 1 => by
    rw [dropTo, dstep]
    split
    · exact dropTo_sure h k
    · split
      · assumption
      · exact dropTo_sure h k
theorem set_same {out : List Int} {k : Nat} {z : Int} (h : out[k]? = some z) : out.set k z = out := by
  apply List.ext_getElem?
  intro i
  rw [List.getElem?_set]
  by_cases hi : k = i
  · subst hi; rw [if_pos rfl, if_pos (lt_of_get h), h]
  · rw [if_neg hi]
theorem dropTo_other {n : List (Int × Int)} {ins l : List Int} {keep : List Bool} {c : Nat} : ∀ {k}, k ≤ c → (dropTo n ins l keep k).getD c 2 = (tab (cnt n n.length) (tin ins)).getD c 2
  | 0, _ => rfl
  | k + 1, h => by
    rw [dropTo, dstep]
    have hset : ∀ L : List Int, (L.set k 2).getD c 2 = L.getD c 2 := fun L => by
      rw [List.getD, List.getD, List.getElem?_set, if_neg (by omega)]
    split
    · exact dropTo_other (by omega)
    · split
      · rw [hset]; exact dropTo_other (by omega)
      · exact dropTo_other (by omega)
/-- What is dropped later says no more. -/
theorem dropTo_le {n : List (Int × Int)} {ins l : List Int} {keep : List Bool} {k : Nat} : ∀ {m}, k ≤ m → ∀ c, (dropTo n ins l keep m).getD c 2 = 2 ∨ (dropTo n ins l keep m).getD c 2 = (dropTo n ins l keep k).getD c 2
  | 0, h, c => by obtain rfl : k = 0 := by omega
                  exact .inr rfl
  | m + 1, h, c => by
    by_cases hk : k = m + 1
    · subst hk; exact .inr rfl
    · have ih := dropTo_le (n := n) (ins := ins) (l := l) (keep := keep) (show k ≤ m by omega) c
      rw [dropTo, dstep]
      split
      · exact ih
      · split
        · rw [List.getD, List.getElem?_set]
          by_cases hm : m = c
          · subst hm
            rw [if_pos rfl]
            split
            · exact .inl rfl
            · exact .inl rfl
          · rw [if_neg hm]; exact ih
        · exact ih
theorem dropTo_after {n : List (Int × Int)} {ins l : List Int} {keep : List Bool} {c : Nat} : ∀ {m}, c < m → (dropTo n ins l keep m).getD c 2 = (dropTo n ins l keep (c + 1)).getD c 2
  | m + 1, h => by
    by_cases hc : c = m
    · subst hc; rfl
    · have ih := dropTo_after (n := n) (ins := ins) (l := l) (keep := keep) (show c < m by omega)
      rw [← ih, dropTo, dstep]
      split
      · rfl
      · split
        · rw [List.getD, List.getD, List.getElem?_set, if_neg (by omega)]
        · rfl
theorem drop_min {n : List (Int × Int)} (hg : GoodNet n) (hn : n.length ≤ 1048576) {ins l : List Int} {keep : List Bool} {k : Nat} (hk : k < cnt n n.length)
    (h2 : ¬ (dropTo n ins l keep (cnt n n.length)).getD k 2 = 2) (hkeep : ¬ keep.getD k false = true) : ¬ SureP n ((dropTo n ins l keep (cnt n n.length)).set k 2) l := by
  intro hs
  have hd := dropTo_len n ins l keep k
  have e1 := dropTo_after (n := n) (ins := ins) (l := l) (keep := keep) hk
  rw [e1] at h2
  have hget : (dropTo n ins l keep k).getD k 0 = (dropTo n ins l keep k).getD k 2 := by
    obtain ⟨z, hz⟩ := getI (dropTo n ins l keep k) (show k < _ by omega)
    rw [getD_of hz, getD_of hz]
  rw [dropTo, dstep] at h2
  by_cases hc : (dropTo n ins l keep k).getD k 0 = 2 ∨ keep.getD k false = true
  · rw [if_pos hc] at h2
    rcases hc with hc | hc
    · rw [hget] at hc; exact h2 hc
    · exact hkeep hc
  · rw [if_neg hc] at h2
    by_cases hs2 : SureP n ((dropTo n ins l keep k).set k 2) l
    · rw [if_pos hs2] at h2
      apply h2
      rw [List.getD, List.getElem?_set, if_pos rfl, if_pos (by omega)]; rfl
    · refine hs2 (sure_mono hg hn (fun c => ?_) hs)
      unfold tin
      rw [List.getD, List.getD, List.getElem?_set, List.getElem?_set, dropTo_len, dropTo_len]
      by_cases hck : k = c
      · subst hck; rw [if_pos rfl, if_pos rfl]; exact .inr rfl
      · rw [if_neg hck, if_neg hck, ← List.getD, ← List.getD]
        rcases dropTo_le (n := n) (ins := ins) (l := l) (keep := keep) (show k ≤ cnt n n.length by omega) c with h3 | h3
        · rw [h3]; exact .inl rfl
        · rw [h3]; exact .inr rfl
end Go.Proofs.Ytfkdlepemiepdaa
