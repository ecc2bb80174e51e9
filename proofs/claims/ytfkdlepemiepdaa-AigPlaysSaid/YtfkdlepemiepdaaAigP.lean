/- What is put to a store, as plain functions of lists of nodes. No conditions. -/
import Derived.Test.YtfkdlepemiepdaaAig3
import Derived.Test.YtfkdlepemiepdaaVals
namespace Go.Proofs.Ytfkdlepemiepdaa
open Go Go.Lt Go.RowKit
set_option linter.unusedVariables false
set_option linter.unusedSimpArgs false

theorem mget_snoc {κ ν : Type} (p q : κ) (v : ν) : ∀ L : List (κ × ν), mget p (L ++ [(q, v)]) = match mget p L with | some u => some u | none => bif dec (p = q) then some v else none
  | [] => by simp [mget]
  | x :: r => by
    have ih := mget_snoc p q v r
    simp only [List.cons_append, mget]
    cases dec (p = x.1)
    · exact ih
    · rfl
theorem gm_app (N L : List (Int × Int)) : ∀ k, k ≤ N.length → gm (N ++ L) k = gm N k
  | 0, _ => rfl
  | k + 1, h => by
    obtain ⟨x, hx⟩ := getI N (show k < N.length by omega)
    have ih := gm_app N L k (by omega)
    have hx' : (N ++ L)[k]? = some x := by rw [List.getElem?_append_left (by omega)]; exact hx
    rw [gm, gm, hx, hx', ih]
theorem gm_snoc_gate (N : List (Int × Int)) {x : Int × Int} (h : 0 ≤ x.1) : gm (N ++ [x]) (N ++ [x]).length = gm N N.length ++ [(x, 2 * ((N.length : Int) + 1))] := by
  rw [show (N ++ [x]).length = N.length + 1 by simp, gm]
  have hx : (N ++ [x])[N.length]? = some x := by simp
  rw [hx, gm_app N [x] _ (Nat.le_refl _)]
  exact if_pos h
theorem gm_snoc_in (N : List (Int × Int)) {x : Int × Int} (h : ¬ 0 ≤ x.1) : gm (N ++ [x]) (N ++ [x]).length = gm N N.length := by
  rw [show (N ++ [x]).length = N.length + 1 by simp, gm]
  have hx : (N ++ [x])[N.length]? = some x := by simp
  rw [hx, gm_app N [x] _ (Nat.le_refl _)]
  exact if_neg h
theorem gm_none {N : List (Int × Int)} {p : Int × Int} : ∀ k, (∀ j : Nat, j < k → N[j]? ≠ some p) → mget p (gm N k) = none
  | 0, _ => rfl
  | k + 1, h => by
    have ih := gm_none k (fun j hj => h j (by omega))
    rw [gm]
    cases hx : N[k]? with
    | none => exact ih
    | some x =>
      show mget p (if 0 ≤ x.1 then _ else _) = none
      split
      · rw [mget_snoc, ih]
        show (bif dec (p = x) then _ else _) = _
        rw [dec_false (fun hh => h k (by omega) (by rw [hx, hh]))]; rfl
      · exact ih
theorem gm_some {N : List (Int × Int)} {p : Int × Int} (hp : 0 ≤ p.1) {i : Nat} (hi : N[i]? = some p) (h : ∀ j : Nat, j < i → N[j]? ≠ some p) : ∀ k, i < k → mget p (gm N k) = some (2 * ((i : Int) + 1))
  | 0, hk => by omega
  | k + 1, hk => by
    rw [gm]
    by_cases hik : i = k
    · subst hik
      rw [hi]
      show mget p (if 0 ≤ p.1 then _ else _) = _
      rw [if_pos hp, mget_snoc, gm_none i h]
      show (bif dec (p = p) then _ else _) = _
      rw [dec_true rfl]; rfl
    · have ih := gm_some hp hi h k (by omega)
      cases hx : N[k]? with
      | none => exact ih
      | some x =>
        show mget p (if 0 ≤ x.1 then _ else _) = _
        split
        · rw [mget_snoc, ih]
        · exact ih
theorem first_of {N : List (Int × Int)} {p : Int × Int} : ∀ k, (∀ j : Nat, j < k → N[j]? ≠ some p) ∨ ∃ i, i < k ∧ N[i]? = some p ∧ ∀ j : Nat, j < i → N[j]? ≠ some p
  | 0 => .inl fun j h => by omega
  | k + 1 => by
    rcases first_of (N := N) (p := p) k with h | ⟨i, h1, h2, h3⟩
    · by_cases hk : N[k]? = some p
      · exact .inr ⟨k, by omega, hk, h⟩
      · exact .inl fun j hj => by
          by_cases hjk : j = k
          · subst hjk; exact hk
          · exact h j (by omega)
    · exact .inr ⟨i, by omega, h2, h3⟩

/-- The map of a store with these nodes. -/
abbrev gmN (N : List (Int × Int)) : List ((Int × Int) × Int) := gm N N.length
abbrev stN (B gs : Nat) (a : Option Addr) (cap r : Nat) (N : List (Int × Int)) : List Piece := stP B gs a cap r N (gmN N)
/-- And: what is told, and the nodes then. -/
noncomputable def andV (N : List (Int × Int)) (x y : Int) : Int × List (Int × Int) := if x ≤ y then ((andF N (gmN N) x y).v, (andF N (gmN N) x y).N) else ((andF N (gmN N) y x).v, (andF N (gmN N) y x).N)

/-- The five ways of And of two of which the first is not the greater. -/
theorem andF_ways {N : List (Int × Int)} {x y : Int} (hxy : x ≤ y) :
    (¬ (hasL N x ∧ hasL N y) ∧ andF N (gmN N) x y = ⟨-1, N, gmN N⟩) ∨
    ((hasL N x ∧ hasL N y) ∧ (x = 0 ∨ x = Lt.xor1 y) ∧ andF N (gmN N) x y = ⟨0, N, gmN N⟩) ∨
    ((hasL N x ∧ hasL N y) ∧ ¬ (x = 0 ∨ x = Lt.xor1 y) ∧ (x = 1 ∨ x = y) ∧ andF N (gmN N) x y = ⟨y, N, gmN N⟩) ∨
    ((hasL N x ∧ hasL N y) ∧ (2 ≤ x ∧ x / 2 < y / 2) ∧ (∃ i : Nat, i < N.length ∧ N[i]? = some (x, y) ∧ (∀ j : Nat, j < i → N[j]? ≠ some (x, y)) ∧ andF N (gmN N) x y = ⟨2 * ((i : Int) + 1), N, gmN N⟩)) ∨
    ((hasL N x ∧ hasL N y) ∧ (2 ≤ x ∧ x / 2 < y / 2) ∧ (∀ j : Nat, N[j]? ≠ some (x, y)) ∧ andF N (gmN N) x y = ⟨2 * ((N.length : Int) + 1), N ++ [(x, y)], gmN (N ++ [(x, y)])⟩) := by
  by_cases h : hasL N x ∧ hasL N y
  · by_cases h1 : x = 0 ∨ x = Lt.xor1 y
    · exact .inr (.inl ⟨h, h1, andF_zero h h1⟩)
    · by_cases h2 : x = 1 ∨ x = y
      · exact .inr (.inr (.inl ⟨h, h1, h2, andF_one h h1 h2⟩))
      · have hb : 2 ≤ x ∧ x / 2 < y / 2 := by
          have := h.1.1
          have h3 : x ≠ Lt.xor1 y := fun hh => h1 (.inr hh)
          unfold Lt.xor1 at h3
          split at h3 <;> omega
        rcases first_of (N := N) (p := (x, y)) N.length with hn | ⟨i, i1, i2, i3⟩
        · refine .inr (.inr (.inr (.inr ⟨h, hb, fun j => ?_, ?_⟩)))
          · by_cases hj : j < N.length
            · exact hn j hj
            · rw [List.getElem?_eq_none (by omega)]; exact fun hh => by cases hh
          · rw [andF_new h h1 h2 (gm_none _ hn)]
            show _ = AndR.mk _ _ (gm (N ++ [(x, y)]) (N ++ [(x, y)]).length)
            rw [gm_snoc_gate N (x := (x, y)) (by show 0 ≤ x; omega)]
        · exact .inr (.inr (.inr (.inl ⟨h, hb, i, i1, i2, i3, andF_old h h1 h2 (gm_some (by show 0 ≤ x; omega) i2 i3 _ i1)⟩)))
  · exact .inl ⟨h, andF_no h⟩
theorem andF_M {N : List (Int × Int)} {x y : Int} (hxy : x ≤ y) : (andF N (gmN N) x y).M = gmN (andF N (gmN N) x y).N := by
  rcases andF_ways (N := N) hxy with ⟨_, h⟩ | ⟨_, _, h⟩ | ⟨_, _, _, h⟩ | ⟨_, _, _, _, _, _, h⟩ | ⟨_, _, _, h⟩ <;> rw [h]

/-- What comes of nodes by Inputs and Ands. -/
inductive Grow : List (Int × Int) → List (Int × Int) → Prop
  | refl (N) : Grow N N
  | input {N M} : Grow N M → Grow N (M ++ [(-1, 0)])
  | gate {N M} (x y : Int) : Grow N M → Grow N (andV M x y).2
theorem Grow.trans {N M K : List (Int × Int)} (h : Grow N M) (k : Grow M K) : Grow N K := by
  induction k with
  | refl => exact h
  | input _ ih => exact .input ih
  | gate x y _ ih => exact .gate x y ih
theorem andV_ways (N : List (Int × Int)) (x y : Int) : ∃ a b : Int, ((a = x ∧ b = y) ∨ (a = y ∧ b = x)) ∧ a ≤ b ∧
    ((¬ (hasL N a ∧ hasL N b) ∧ andV N x y = (-1, N)) ∨
    ((hasL N a ∧ hasL N b) ∧ (a = 0 ∨ a = Lt.xor1 b) ∧ andV N x y = (0, N)) ∨
    ((hasL N a ∧ hasL N b) ∧ ¬ (a = 0 ∨ a = Lt.xor1 b) ∧ (a = 1 ∨ a = b) ∧ andV N x y = (b, N)) ∨
    ((hasL N a ∧ hasL N b) ∧ (2 ≤ a ∧ a / 2 < b / 2) ∧ (∃ i : Nat, i < N.length ∧ N[i]? = some (a, b) ∧ (∀ j : Nat, j < i → N[j]? ≠ some (a, b)) ∧ andV N x y = (2 * ((i : Int) + 1), N))) ∨
    ((hasL N a ∧ hasL N b) ∧ (2 ≤ a ∧ a / 2 < b / 2) ∧ (∀ j : Nat, N[j]? ≠ some (a, b)) ∧ andV N x y = (2 * ((N.length : Int) + 1), N ++ [(a, b)]))) := by
  have key : ∀ a b : Int, a ≤ b → andV N x y = ((andF N (gmN N) a b).v, (andF N (gmN N) a b).N) →
    ((¬ (hasL N a ∧ hasL N b) ∧ andV N x y = (-1, N)) ∨
    ((hasL N a ∧ hasL N b) ∧ (a = 0 ∨ a = Lt.xor1 b) ∧ andV N x y = (0, N)) ∨
    ((hasL N a ∧ hasL N b) ∧ ¬ (a = 0 ∨ a = Lt.xor1 b) ∧ (a = 1 ∨ a = b) ∧ andV N x y = (b, N)) ∨
    ((hasL N a ∧ hasL N b) ∧ (2 ≤ a ∧ a / 2 < b / 2) ∧ (∃ i : Nat, i < N.length ∧ N[i]? = some (a, b) ∧ (∀ j : Nat, j < i → N[j]? ≠ some (a, b)) ∧ andV N x y = (2 * ((i : Int) + 1), N))) ∨
    ((hasL N a ∧ hasL N b) ∧ (2 ≤ a ∧ a / 2 < b / 2) ∧ (∀ j : Nat, N[j]? ≠ some (a, b)) ∧ andV N x y = (2 * ((N.length : Int) + 1), N ++ [(a, b)]))) := by
    intro a b hab he
    rcases andF_ways (N := N) hab with ⟨h0, h⟩ | ⟨h0, h1, h⟩ | ⟨h0, h1, h2, h⟩ | ⟨h0, h1, i, i1, i2, i3, h⟩ | ⟨h0, h1, h2, h⟩
    · exact .inl ⟨h0, by rw [he, h]⟩
    · exact .inr (.inl ⟨h0, h1, by rw [he, h]⟩)
    · exact .inr (.inr (.inl ⟨h0, h1, h2, by rw [he, h]⟩))
    · exact .inr (.inr (.inr (.inl ⟨h0, h1, i, i1, i2, i3, by rw [he, h]⟩)))
    · exact .inr (.inr (.inr (.inr ⟨h0, h1, h2, by rw [he, h]⟩)))
  by_cases hxy : x ≤ y
  · exact ⟨x, y, .inl ⟨rfl, rfl⟩, hxy, key x y hxy (by rw [andV, if_pos hxy])⟩
  · exact ⟨y, x, .inr ⟨rfl, rfl⟩, by omega, key y x (by omega) (by rw [andV, if_neg hxy])⟩

/-! ### How long, and what is told -/
theorem andV_len (N : List (Int × Int)) (x y : Int) : N.length ≤ (andV N x y).2.length ∧ (andV N x y).2.length ≤ N.length + 1 := by
  obtain ⟨a, b, _, _, h⟩ := andV_ways N x y
  rcases h with ⟨_, h⟩ | ⟨_, _, h⟩ | ⟨_, _, _, h⟩ | ⟨_, _, _, _, _, _, h⟩ | ⟨_, _, _, h⟩ <;> rw [h] <;> simp
theorem andV_le (N : List (Int × Int)) (x y : Int) : -1 ≤ (andV N x y).1 ∧ (andV N x y).1 ≤ 2 * ((andV N x y).2.length : Int) + 1 := by
  obtain ⟨a, b, _, _, h⟩ := andV_ways N x y
  rcases h with ⟨_, h⟩ | ⟨_, _, h⟩ | ⟨h0, _, _, h⟩ | ⟨_, _, _, _, _, _, h⟩ | ⟨_, _, _, h⟩ <;> rw [h]
  · simp; omega
  · simp; omega
  · have h1 := h0.2; unfold hasL at h1; dsimp only; omega
  · dsimp only; omega
  · simp; omega
theorem andV_has {N : List (Int × Int)} {x y : Int} (hx : hasL N x) (hy : hasL N y) : hasL (andV N x y).2 (andV N x y).1 := by
  obtain ⟨a, b, hab, _, h⟩ := andV_ways N x y
  have hh : hasL N a ∧ hasL N b := by rcases hab with ⟨rfl, rfl⟩ | ⟨rfl, rfl⟩; exact ⟨hx, hy⟩; exact ⟨hy, hx⟩
  rcases h with ⟨h1, _⟩ | ⟨_, _, h⟩ | ⟨_, _, _, h⟩ | ⟨_, _, i, hi, _, _, h⟩ | ⟨_, _, _, h⟩
  · exact absurd hh h1
  · rw [h]; unfold hasL; dsimp only; omega
  · rw [h]; exact hh.2
  · rw [h]; unfold hasL; dsimp only; omega
  · rw [h]; unfold hasL; simp; omega
theorem andV_no {N : List (Int × Int)} {x y : Int} (h : ¬ (hasL N x ∧ hasL N y)) : andV N x y = (-1, N) := by
  obtain ⟨a, b, hab, _, hw⟩ := andV_ways N x y
  have hh : ¬ (hasL N a ∧ hasL N b) := by rcases hab with ⟨rfl, rfl⟩ | ⟨rfl, rfl⟩; exact h; exact fun k => h k.symm
  rcases hw with ⟨_, h⟩ | ⟨h0, _⟩ | ⟨h0, _⟩ | ⟨h0, _⟩ | ⟨h0, _⟩
  · exact h
  all_goals exact absurd h0 hh
theorem Grow.len {N M : List (Int × Int)} (h : Grow N M) : N.length ≤ M.length := by
  induction h with
  | refl => exact Nat.le_refl _
  | input _ ih => simp; omega
  | gate x y _ ih => rename_i M' _; have := andV_len M' x y; omega
theorem Grow.pre {N M : List (Int × Int)} (h : Grow N M) : ∀ {i : Nat} {x}, N[i]? = some x → M[i]? = some x := by
  induction h with
  | refl => exact fun h => h
  | input _ ih => intro i x hx; have := ih hx; rw [List.getElem?_append_left (lt_of_get this)]; exact this
  | gate x y _ ih =>
    rename_i M' _
    intro i z hz
    have := ih hz
    obtain ⟨a, b, _, _, h⟩ := andV_ways M' x y
    rcases h with ⟨_, h⟩ | ⟨_, _, h⟩ | ⟨_, _, _, h⟩ | ⟨_, _, _, _, _, _, h⟩ | ⟨_, _, _, h⟩ <;> rw [h]
    all_goals first | exact this | (show (M' ++ _)[i]? = _; rw [List.getElem?_append_left (lt_of_get this)]; exact this)
theorem hasL_mono {N M : List (Int × Int)} {x : Int} (h : hasL N x) (hl : N.length ≤ M.length) : hasL M x := by unfold hasL at h ⊢; omega
theorem Grow.has {N M : List (Int × Int)} {x : Int} (h : Grow N M) (hx : hasL N x) : hasL M x := hasL_mono hx h.len

/-! ### Tidy nets -/
structure Tidy (N : List (Int × Int)) : Prop where
  good : GoodNet N
  gate : ∀ i x, N[i]? = some x → 0 ≤ x.1 → 2 ≤ x.1 ∧ x.1 / 2 < x.2 / 2 ∧ ∀ k : Nat, k < i → N[k]? ≠ some x
theorem get_snoc {α : Type} {N : List α} {x y : α} {i : Nat} (h : (N ++ [x])[i]? = some y) : N[i]? = some y ∨ (i = N.length ∧ y = x) := by
  by_cases hi : i < N.length
  · rw [List.getElem?_append_left hi] at h; exact .inl h
  · have := lt_of_get h
    simp only [List.length_append, List.length_cons, List.length_nil] at this
    have : i = N.length := by omega
    subst this
    simp at h; exact .inr ⟨rfl, h.symm⟩
theorem Tidy.nil : Tidy [] := ⟨fun i x h => by simp at h, fun i x h => by simp at h⟩
theorem Tidy.input {N : List (Int × Int)} (h : Tidy N) : Tidy (N ++ [(-1, 0)]) := by
  refine ⟨fun i x hx => ?_, fun i x hx h0 => ?_⟩
  · rcases get_snoc hx with h1 | ⟨_, rfl⟩
    · exact h.good i x h1
    · unfold badNode; simp
  · rcases get_snoc hx with h1 | ⟨_, rfl⟩
    · obtain ⟨k1, k2, k3⟩ := h.gate i x h1 h0
      refine ⟨k1, k2, fun k hk hh => ?_⟩
      have := lt_of_get h1
      rw [List.getElem?_append_left (by omega)] at hh
      exact k3 k hk hh
    · simp at h0
theorem Tidy.and {N : List (Int × Int)} (h : Tidy N) (x y : Int) : Tidy (andV N x y).2 := by
  obtain ⟨a, b, _, _, hw⟩ := andV_ways N x y
  rcases hw with ⟨_, hw⟩ | ⟨_, _, hw⟩ | ⟨_, _, _, hw⟩ | ⟨_, _, _, _, _, _, hw⟩ | ⟨h0, h1, h2, hw⟩
  · rw [hw]; exact h
  · rw [hw]; exact h
  · rw [hw]; exact h
  · rw [hw]; exact h
  · rw [hw]
    show Tidy (N ++ [(a, b)])
    refine ⟨fun i z hz => ?_, fun i z hz hz0 => ?_⟩
    · rcases get_snoc hz with k | ⟨rfl, rfl⟩
      · exact h.good i z k
      · unfold badNode; unfold hasL at h0; dsimp only; omega
    · rcases get_snoc hz with k | ⟨rfl, rfl⟩
      · obtain ⟨k1, k2, k3⟩ := h.gate i z k hz0
        refine ⟨k1, k2, fun j hj hh => ?_⟩
        have := lt_of_get k
        rw [List.getElem?_append_left (by omega)] at hh
        exact k3 j hj hh
      · refine ⟨h1.1, h1.2, fun j hj hh => ?_⟩
        rw [List.getElem?_append_left (by omega)] at hh
        exact h2 j hh
theorem Grow.tidy {N M : List (Int × Int)} (h : Grow N M) (hN : Tidy N) : Tidy M := by
  induction h with
  | refl => exact hN
  | input _ ih => exact ih.input
  | gate x y _ ih => exact ih.and x y

/-! ### What the words mean -/
theorem vto_app (N L : List (Int × Int)) (ins : List Bool) : ∀ k, k ≤ N.length → vto (N ++ L) ins k = vto N ins k := by
  intro k hk
  unfold vto
  rw [List.take_append_of_le_length hk]
theorem values_pre {N M : List (Int × Int)} (h : ∀ {i : Nat} {x}, N[i]? = some x → M[i]? = some x) (ins : List Bool) : ∀ k, k ≤ N.length → vto M ins k = vto N ins k := by
  intro k hk
  have hl : N.length ≤ M.length := by
    by_cases h0 : N.length = 0
    · omega
    · obtain ⟨x, hx⟩ := getI N (show N.length - 1 < N.length by omega)
      have := lt_of_get (h hx); omega
  have : M.take N.length = N := by
    apply List.ext_getElem?
    intro i
    by_cases hi : i < N.length
    · obtain ⟨x, hx⟩ := getI N hi
      rw [List.getElem?_take, if_pos hi, hx, h hx]
    · rw [List.getElem?_take, if_neg hi, List.getElem?_eq_none (by omega)]
  have e : M = M.take N.length ++ M.drop N.length := (List.take_append_drop _ _).symm
  rw [this] at e
  rw [e]; exact vto_app _ _ _ k hk
theorem Grow.of {N M : List (Int × Int)} (h : Grow N M) (ins : List Bool) {l : Int} (hl : hasL N l) : ofL (values M ins) l = ofL (values N ins) l := by
  unfold hasL at hl
  rw [← vto_of M ins (k := N.length) (by omega) h.len, values_pre h.pre ins _ (Nat.le_refl _)]; rfl
theorem ofL_xor1 (v : List Bool) {l : Int} (h : 0 ≤ l) : ofL v (Lt.xor1 l) = !ofL v l := by
  unfold Lt.xor1 ofL
  split
  · rw [show (l + 1) / 2 = l / 2 by omega, decide_eq_true (show (l + 1) % 2 = 1 by omega), decide_eq_false (show ¬ l % 2 = 1 by omega)]; simp
  · rw [show (l - 1) / 2 = l / 2 by omega, decide_eq_false (show ¬ (l - 1) % 2 = 1 by omega), decide_eq_true (show l % 2 = 1 by omega)]; simp
theorem ofL_zero {N : List (Int × Int)} (ins : List Bool) : ofL (values N ins) 0 = false := by
  unfold ofL; rw [show ((0 : Int) / 2).toNat = 0 from rfl, values_zero]; rfl
theorem ofL_one {N : List (Int × Int)} (ins : List Bool) : ofL (values N ins) 1 = true := by
  unfold ofL; rw [show ((1 : Int) / 2).toNat = 0 from rfl, values_zero]; rfl
theorem ofL_gate {N : List (Int × Int)} (hg : GoodNet N) (ins : List Bool) {i : Nat} {x : Int × Int} (hx : N[i]? = some x) (h0 : 0 ≤ x.1) : ofL (values N ins) (2 * ((i : Int) + 1)) = (ofL (values N ins) x.1 && ofL (values N ins) x.2) := by
  conv => lhs; unfold ofL
  rw [show ((2 * ((i : Int) + 1)) / 2).toNat = i + 1 by omega, values_gate hg ins hx h0, decide_eq_false (by omega)]; simp
theorem andV_of {N : List (Int × Int)} (hT : Tidy N) (ins : List Bool) {x y : Int} (hx : hasL N x) (hy : hasL N y) : ofL (values (andV N x y).2 ins) (andV N x y).1 = (ofL (values N ins) x && ofL (values N ins) y) := by
  obtain ⟨a, b, hab, hle, hw⟩ := andV_ways N x y
  have hG : Grow N (andV N x y).2 := .gate x y (.refl N)
  have hT2 := hT.and x y
  have hh : hasL N a ∧ hasL N b := by rcases hab with ⟨rfl, rfl⟩ | ⟨rfl, rfl⟩; exact ⟨hx, hy⟩; exact ⟨hy, hx⟩
  have he : (ofL (values N ins) x && ofL (values N ins) y) = (ofL (values N ins) a && ofL (values N ins) b) := by
    rcases hab with ⟨rfl, rfl⟩ | ⟨rfl, rfl⟩
    · rfl
    · exact Bool.and_comm _ _
  rw [he]
  rcases hw with ⟨h1, _⟩ | ⟨_, h1, hw⟩ | ⟨_, _, h1, hw⟩ | ⟨_, h1, i, i1, i2, i3, hw⟩ | ⟨h0, h1, h2, hw⟩
  · exact absurd hh h1
  · rw [hw]
    show ofL (values N ins) 0 = _
    rw [ofL_zero]
    rcases h1 with rfl | rfl
    · rw [ofL_zero]; rfl
    · rw [ofL_xor1 _ hh.2.1]; simp
  · rw [hw]
    show ofL (values N ins) b = _
    rcases h1 with rfl | rfl
    · rw [ofL_one]; rfl
    · simp
  · rw [hw]
    exact ofL_gate hT.good ins i2 (by show 0 ≤ a; omega)
  · rw [hw] at hG hT2 ⊢
    have hx2 : (N ++ [(a, b)])[N.length]? = some (a, b) := by simp
    show ofL (values (N ++ [(a, b)]) ins) _ = _
    rw [ofL_gate hT2.good ins hx2 (by show 0 ≤ a; omega)]
    show (ofL (values (N ++ [(a, b)]) ins) a && ofL (values (N ++ [(a, b)]) ins) b) = _
    rw [Grow.of hG ins hh.1, Grow.of hG ins hh.2]
end Go.Proofs.Ytfkdlepemiepdaa
