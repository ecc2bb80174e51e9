/- Part 3 of what the claim UnrollMeans needs: lemmas and contracts, printed from longer texts. No conditions. -/
import Derived.Test.YteidpnpbfagaeaaRows
import Derived.Lib.SmallJoins
import Derived.KernelRfl
import Derived.WalkKit
import Derived.ProofKit
import Derived.Deep.Quiet
import Derived.Deep.LoopGhost
import Derived.StillTail
import Derived.Test.YteidpnpbfagaeaaProg
import Derived.OpenShut
import Derived.ShutString
import Derived.ChangeOld
import Derived.Deep.Slices
import Derived.SizedLaws
import Derived.Laws.StructEq
import Derived.Laws.Externs
import Derived.MapKept
import Derived.JoinedCond
import Derived.Test.YteidpnpbfagaeaaUnrollMeansP2
namespace Go.Proofs.Yteidpnpbfagaeaa
open Go Go.Lt Go.RowKit
set_option linter.unusedVariables false
set_option linter.unusedSimpArgs false
set_option maxRecDepth 20000

theorem mget_snoc {κ ν : Type} (p q : κ) (v : ν) : ∀ L : List (κ × ν), mget p (L ++ [(q, v)]) = match mget p L with | some u => some u | none => bif dec (p = q) then some v else none
 | [] => by simp [mget]
 | x :: r => by
  have ih := mget_snoc p q v r
  simp only [List.cons_append, mget]
  cases dec (p = x.1)
  ·exact ih
  ·rfl
theorem gm_app (N L : List (Int × Int)) : ∀ k, k ≤ N.length → gm (N ++ L) k = gm N k
 | 0, _ => rfl
 | k + 1, h => by
  obtain ⟨x, hx⟩ := getI N (show k < N.length by omega)
  have ih := gm_app N L k (by omega)
  have hx' : (N ++ L)[k]? = some x := by rw [List.getElem?_append_left (by omega)]; exact hx
  rw [gm, gm, hx, hx', ih]
theorem gm_snoc_gate (N : List (Int × Int)) {x : Int × Int} (h : 0 ≤ x.1) : gm (N ++ [x]) (N ++ [x]).length = gm N N.length ++ [(x, 2 * ((N.length : Int) + 1))] := by
 rw [show (N ++ [x]).length = N.length + 1 by simp, gm]
 have hx : (N ++ [x])[N.length]? = some x := by simp
 rw [hx, gm_app N [x] _ (Nat.le_refl _)]
 exact if_pos h
theorem gm_snoc_in (N : List (Int × Int)) {x : Int × Int} (h : ¬ 0 ≤ x.1) : gm (N ++ [x]) (N ++ [x]).length = gm N N.length := by
 rw [show (N ++ [x]).length = N.length + 1 by simp, gm]
 have hx : (N ++ [x])[N.length]? = some x := by simp
 rw [hx, gm_app N [x] _ (Nat.le_refl _)]
 exact if_neg h
theorem gm_none {N : List (Int × Int)} {p : Int × Int} : ∀ k, (∀ j : Nat, j < k → N[j]? ≠ some p) → mget p (gm N k) = none
 | 0, _ => rfl
 | k + 1, h => by
  have ih := gm_none k (fun j hj => h j (by omega))
  rw [gm]
  cases hx : N[k]? with
  | none => exact ih
  | some x =>
   show mget p (if 0 ≤ x.1 then _ else _) = none
   split
   ·rw [mget_snoc, ih]
    show (bif dec (p = x) then _ else _) = _
    rw [dec_false (fun hh => h k (by omega) (by rw [hx, hh]))]; rfl
   ·exact ih
theorem gm_some {N : List (Int × Int)} {p : Int × Int} (hp : 0 ≤ p.1) {i : Nat} (hi : N[i]? = some p) (h : ∀ j : Nat, j < i → N[j]? ≠ some p) : ∀ k, i < k → mget p (gm N k) = some (2 * ((i : Int) + 1))
 | 0, hk => by omega
 | k + 1, hk => by
  rw [gm]
  by_cases hik : i = k
  ·subst hik
   rw [hi]
   show mget p (if 0 ≤ p.1 then _ else _) = _
   rw [if_pos hp, mget_snoc, gm_none i h]
   show (bif dec (p = p) then _ else _) = _
   rw [dec_true rfl]; rfl
  ·have ih := gm_some hp hi h k (by omega)
   cases hx : N[k]? with
   | none => exact ih
   | some x =>
    show mget p (if 0 ≤ x.1 then _ else _) = _
    split
    ·rw [mget_snoc, ih]
    ·exact ih
theorem first_of {N : List (Int × Int)} {p : Int × Int} : ∀ k, (∀ j : Nat, j < k → N[j]? ≠ some p) ∨ ∃ i, i < k ∧ N[i]? = some p ∧ ∀ j : Nat, j < i → N[j]? ≠ some p
 | 0 => .inl fun j h => by omega
 | k + 1 => by
  rcases first_of (N := N) (p := p) k with h | ⟨i, h1, h2, h3⟩
  ·by_cases hk : N[k]? = some p
   ·exact .inr ⟨k, by omega, hk, h⟩
   ·exact .inl fun j hj => by
     by_cases hjk : j = k
     ·subst hjk; exact hk
     ·exact h j (by omega)
  ·exact .inr ⟨i, by omega, h2, h3⟩

abbrev gmN (N : List (Int × Int)) : List ((Int × Int) × Int) := gm N N.length
abbrev stN (B gs : Nat) (a : Option Addr) (cap r : Nat) (N : List (Int × Int)) : List Piece := stP B gs a cap r N (gmN N)
noncomputable def andV (N : List (Int × Int)) (x y : Int) : Int × List (Int × Int) := if x ≤ y then ((andF N (gmN N) x y).v, (andF N (gmN N) x y).N) else ((andF N (gmN N) y x).v, (andF N (gmN N) y x).N)

theorem andF_ways {N : List (Int × Int)} {x y : Int} (hxy : x ≤ y) :
  (¬ (hasL N x ∧ hasL N y) ∧ andF N (gmN N) x y = ⟨-1, N, gmN N⟩) ∨
  ((hasL N x ∧ hasL N y) ∧ (x = 0 ∨ x = Lt.xor1 y) ∧ andF N (gmN N) x y = ⟨0, N, gmN N⟩) ∨
  ((hasL N x ∧ hasL N y) ∧ ¬ (x = 0 ∨ x = Lt.xor1 y) ∧ (x = 1 ∨ x = y) ∧ andF N (gmN N) x y = ⟨y, N, gmN N⟩) ∨
  ((hasL N x ∧ hasL N y) ∧ (2 ≤ x ∧ x / 2 < y / 2) ∧ (∃ i : Nat, i < N.length ∧ N[i]? = some (x, y) ∧ (∀ j : Nat, j < i → N[j]? ≠ some (x, y)) ∧ andF N (gmN N) x y = ⟨2 * ((i : Int) + 1), N, gmN N⟩)) ∨
  ((hasL N x ∧ hasL N y) ∧ (2 ≤ x ∧ x / 2 < y / 2) ∧ (∀ j : Nat, N[j]? ≠ some (x, y)) ∧ andF N (gmN N) x y = ⟨2 * ((N.length : Int) + 1), N ++ [(x, y)], gmN (N ++ [(x, y)])⟩) := by
 by_cases h : hasL N x ∧ hasL N y
 ·by_cases h1 : x = 0 ∨ x = Lt.xor1 y
  ·exact .inr (.inl ⟨h, h1, andF_zero h h1⟩)
  ·by_cases h2 : x = 1 ∨ x = y
   ·exact .inr (.inr (.inl ⟨h, h1, h2, andF_one h h1 h2⟩))
   ·have hb : 2 ≤ x ∧ x / 2 < y / 2 := by
     have := h.1.1
     have h3 : x ≠ Lt.xor1 y := fun hh => h1 (.inr hh)
     unfold Lt.xor1 at h3
     split at h3 <;> omega
    rcases first_of (N := N) (p := (x, y)) N.length with hn | ⟨i, i1, i2, i3⟩
    ·refine .inr (.inr (.inr (.inr ⟨h, hb, fun j => ?_, ?_⟩)))
     ·by_cases hj : j < N.length
      ·exact hn j hj
      ·rw [List.getElem?_eq_none (by omega)]; exact fun hh => by cases hh
     ·rw [andF_new h h1 h2 (gm_none _ hn)]
      show _ = AndR.mk _ _ (gm (N ++ [(x, y)]) (N ++ [(x, y)]).length)
      rw [gm_snoc_gate N (x := (x, y)) (by show 0 ≤ x; omega)]
    ·exact .inr (.inr (.inr (.inl ⟨h, hb, i, i1, i2, i3, andF_old h h1 h2 (gm_some (by show 0 ≤ x; omega) i2 i3 _ i1)⟩)))
 ·exact .inl ⟨h, andF_no h⟩
theorem andF_M {N : List (Int × Int)} {x y : Int} (hxy : x ≤ y) : (andF N (gmN N) x y).M = gmN (andF N (gmN N) x y).N := by
 rcases andF_ways (N := N) hxy with ⟨_, h⟩ | ⟨_, _, h⟩ | ⟨_, _, _, h⟩ | ⟨_, _, _, _, _, _, h⟩ | ⟨_, _, _, h⟩ <;> rw [h]

inductive Grow : List (Int × Int) → List (Int × Int) → Prop
 | refl (N) : Grow N N
 | input {N M} : Grow N M → Grow N (M ++ [(-1, 0)])
 | gate {N M} (x y : Int) : Grow N M → Grow N (andV M x y).2
theorem Grow.trans {N M K : List (Int × Int)} (h : Grow N M) (k : Grow M K) : Grow N K := by
 induction k with
 | refl => exact h
 | input _ ih => exact .input ih
 | gate x y _ ih => exact .gate x y ih
theorem andV_ways (N : List (Int × Int)) (x y : Int) : ∃ a b : Int, ((a = x ∧ b = y) ∨ (a = y ∧ b = x)) ∧ a ≤ b ∧
  ((¬ (hasL N a ∧ hasL N b) ∧ andV N x y = (-1, N)) ∨
  ((hasL N a ∧ hasL N b) ∧ (a = 0 ∨ a = Lt.xor1 b) ∧ andV N x y = (0, N)) ∨
  ((hasL N a ∧ hasL N b) ∧ ¬ (a = 0 ∨ a = Lt.xor1 b) ∧ (a = 1 ∨ a = b) ∧ andV N x y = (b, N)) ∨
  ((hasL N a ∧ hasL N b) ∧ (2 ≤ a ∧ a / 2 < b / 2) ∧ (∃ i : Nat, i < N.length ∧ N[i]? = some (a, b) ∧ (∀ j : Nat, j < i → N[j]? ≠ some (a, b)) ∧ andV N x y = (2 * ((i : Int) + 1), N))) ∨
  ((hasL N a ∧ hasL N b) ∧ (2 ≤ a ∧ a / 2 < b / 2) ∧ (∀ j : Nat, N[j]? ≠ some (a, b)) ∧ andV N x y = (2 * ((N.length : Int) + 1), N ++ [(a, b)]))) := by
 have key : ∀ a b : Int, a ≤ b → andV N x y = ((andF N (gmN N) a b).v, (andF N (gmN N) a b).N) →
  ((¬ (hasL N a ∧ hasL N b) ∧ andV N x y = (-1, N)) ∨
  ((hasL N a ∧ hasL N b) ∧ (a = 0 ∨ a = Lt.xor1 b) ∧ andV N x y = (0, N)) ∨
  ((hasL N a ∧ hasL N b) ∧ ¬ (a = 0 ∨ a = Lt.xor1 b) ∧ (a = 1 ∨ a = b) ∧ andV N x y = (b, N)) ∨
  ((hasL N a ∧ hasL N b) ∧ (2 ≤ a ∧ a / 2 < b / 2) ∧ (∃ i : Nat, i < N.length ∧ N[i]? = some (a, b) ∧ (∀ j : Nat, j < i → N[j]? ≠ some (a, b)) ∧ andV N x y = (2 * ((i : Int) + 1), N))) ∨
  ((hasL N a ∧ hasL N b) ∧ (2 ≤ a ∧ a / 2 < b / 2) ∧ (∀ j : Nat, N[j]? ≠ some (a, b)) ∧ andV N x y = (2 * ((N.length : Int) + 1), N ++ [(a, b)]))) := by
  intro a b hab he
  rcases andF_ways (N := N) hab with ⟨h0, h⟩ | ⟨h0, h1, h⟩ | ⟨h0, h1, h2, h⟩ | ⟨h0, h1, i, i1, i2, i3, h⟩ | ⟨h0, h1, h2, h⟩
  ·exact .inl ⟨h0, by rw [he, h]⟩
  ·exact .inr (.inl ⟨h0, h1, by rw [he, h]⟩)
  ·exact .inr (.inr (.inl ⟨h0, h1, h2, by rw [he, h]⟩))
  ·exact .inr (.inr (.inr (.inl ⟨h0, h1, i, i1, i2, i3, by rw [he, h]⟩)))
  ·exact .inr (.inr (.inr (.inr ⟨h0, h1, h2, by rw [he, h]⟩)))
 by_cases hxy : x ≤ y
 ·exact ⟨x, y, .inl ⟨rfl, rfl⟩, hxy, key x y hxy (by rw [andV, if_pos hxy])⟩
 ·exact ⟨y, x, .inr ⟨rfl, rfl⟩, by omega, key y x (by omega) (by rw [andV, if_neg hxy])⟩

theorem andV_len (N : List (Int × Int)) (x y : Int) : N.length ≤ (andV N x y).2.length ∧ (andV N x y).2.length ≤ N.length + 1 := by
 obtain ⟨a, b, _, _, h⟩ := andV_ways N x y
 rcases h with ⟨_, h⟩ | ⟨_, _, h⟩ | ⟨_, _, _, h⟩ | ⟨_, _, _, _, _, _, h⟩ | ⟨_, _, _, h⟩ <;> rw [h] <;> simp
theorem andV_le (N : List (Int × Int)) (x y : Int) : -1 ≤ (andV N x y).1 ∧ (andV N x y).1 ≤ 2 * ((andV N x y).2.length : Int) + 1 := by
 obtain ⟨a, b, _, _, h⟩ := andV_ways N x y
 rcases h with ⟨_, h⟩ | ⟨_, _, h⟩ | ⟨h0, _, _, h⟩ | ⟨_, _, _, _, _, _, h⟩ | ⟨_, _, _, h⟩ <;> rw [h]
 ·simp; omega
 ·simp; omega
 ·have h1 := h0.2; unfold hasL at h1; dsimp only; omega
 ·dsimp only; omega
 ·simp; omega
theorem andV_has {N : List (Int × Int)} {x y : Int} (hx : hasL N x) (hy : hasL N y) : hasL (andV N x y).2 (andV N x y).1 := by
 obtain ⟨a, b, hab, _, h⟩ := andV_ways N x y
 have hh : hasL N a ∧ hasL N b := by rcases hab with ⟨rfl, rfl⟩ | ⟨rfl, rfl⟩; exact ⟨hx, hy⟩; exact ⟨hy, hx⟩
 rcases h with ⟨h1, _⟩ | ⟨_, _, h⟩ | ⟨_, _, _, h⟩ | ⟨_, _, i, hi, _, _, h⟩ | ⟨_, _, _, h⟩
 ·exact absurd hh h1
 ·rw [h]; unfold hasL; dsimp only; omega
 ·rw [h]; exact hh.2
 ·rw [h]; unfold hasL; dsimp only; omega
 ·rw [h]; unfold hasL; simp; omega
theorem Grow.len {N M : List (Int × Int)} (h : Grow N M) : N.length ≤ M.length := by
 induction h with
 | refl => exact Nat.le_refl _
 | input _ ih => simp; omega
 | gate x y _ ih => rename_i M' _; have := andV_len M' x y; omega
theorem Grow.pre {N M : List (Int × Int)} (h : Grow N M) : ∀ {i : Nat} {x}, N[i]? = some x → M[i]? = some x := by
 induction h with
 | refl => exact fun h => h
 | input _ ih => intro i x hx; have := ih hx; rw [List.getElem?_append_left (lt_of_get this)]; exact this
 | gate x y _ ih =>
  rename_i M' _
  intro i z hz
  have := ih hz
  obtain ⟨a, b, _, _, h⟩ := andV_ways M' x y
  rcases h with ⟨_, h⟩ | ⟨_, _, h⟩ | ⟨_, _, _, h⟩ | ⟨_, _, _, _, _, _, h⟩ | ⟨_, _, _, h⟩ <;> rw [h]
  all_goals first | exact this | (show (M' ++ _)[i]? = _; rw [List.getElem?_append_left (lt_of_get this)]; exact this)
theorem hasL_mono {N M : List (Int × Int)} {x : Int} (h : hasL N x) (hl : N.length ≤ M.length) : hasL M x := by unfold hasL at h ⊢; omega
theorem Grow.has {N M : List (Int × Int)} {x : Int} (h : Grow N M) (hx : hasL N x) : hasL M x := hasL_mono hx h.len

structure Tidy (N : List (Int × Int)) : Prop where
 good : GoodNet N
 gate : ∀ i x, N[i]? = some x → 0 ≤ x.1 → 2 ≤ x.1 ∧ x.1 / 2 < x.2 / 2 ∧ ∀ k : Nat, k < i → N[k]? ≠ some x
theorem get_snoc {α : Type} {N : List α} {x y : α} {i : Nat} (h : (N ++ [x])[i]? = some y) : N[i]? = some y ∨ (i = N.length ∧ y = x) := by
 by_cases hi : i < N.length
 ·rw [List.getElem?_append_left hi] at h; exact .inl h
 ·have := lt_of_get h
  simp only [List.length_append, List.length_cons, List.length_nil] at this
  have : i = N.length := by omega
  subst this
  simp at h; exact .inr ⟨rfl, h.symm⟩
theorem Tidy.nil : Tidy [] := ⟨fun i x h => by simp at h, fun i x h => by simp at h⟩
theorem Tidy.input {N : List (Int × Int)} (h : Tidy N) : Tidy (N ++ [(-1, 0)]) := by
 refine ⟨fun i x hx => ?_, fun i x hx h0 => ?_⟩
 ·rcases get_snoc hx with h1 | ⟨_, rfl⟩
  ·exact h.good i x h1
  ·unfold badNode; simp
 ·rcases get_snoc hx with h1 | ⟨_, rfl⟩
  ·obtain ⟨k1, k2, k3⟩ := h.gate i x h1 h0
   refine ⟨k1, k2, fun k hk hh => ?_⟩
   have := lt_of_get h1
   rw [List.getElem?_append_left (by omega)] at hh
   exact k3 k hk hh
  ·simp at h0
theorem Tidy.and {N : List (Int × Int)} (h : Tidy N) (x y : Int) : Tidy (andV N x y).2 := by
 obtain ⟨a, b, _, _, hw⟩ := andV_ways N x y
 rcases hw with ⟨_, hw⟩ | ⟨_, _, hw⟩ | ⟨_, _, _, hw⟩ | ⟨_, _, _, _, _, _, hw⟩ | ⟨h0, h1, h2, hw⟩
 ·rw [hw]; exact h
 ·rw [hw]; exact h
 ·rw [hw]; exact h
 ·rw [hw]; exact h
 ·rw [hw]
  show Tidy (N ++ [(a, b)])
  refine ⟨fun i z hz => ?_, fun i z hz hz0 => ?_⟩
  ·rcases get_snoc hz with k | ⟨rfl, rfl⟩
   ·exact h.good i z k
   ·unfold badNode; unfold hasL at h0; dsimp only; omega
  ·rcases get_snoc hz with k | ⟨rfl, rfl⟩
   ·obtain ⟨k1, k2, k3⟩ := h.gate i z k hz0
    refine ⟨k1, k2, fun j hj hh => ?_⟩
    have := lt_of_get k
    rw [List.getElem?_append_left (by omega)] at hh
    exact k3 j hj hh
   ·refine ⟨h1.1, h1.2, fun j hj hh => ?_⟩
    rw [List.getElem?_append_left (by omega)] at hh
    exact h2 j hh
theorem Grow.tidy {N M : List (Int × Int)} (h : Grow N M) (hN : Tidy N) : Tidy M := by
 induction h with
 | refl => exact hN
 | input _ ih => exact ih.input
 | gate x y _ ih => exact ih.and x y

theorem vto_app (N L : List (Int × Int)) (ins : List Bool) : ∀ k, k ≤ N.length → vto (N ++ L) ins k = vto N ins k := by
 intro k hk
 unfold vto
 rw [List.take_append_of_le_length hk]
theorem values_pre {N M : List (Int × Int)} (h : ∀ {i : Nat} {x}, N[i]? = some x → M[i]? = some x) (ins : List Bool) : ∀ k, k ≤ N.length → vto M ins k = vto N ins k := by
 intro k hk
 have hl : N.length ≤ M.length := by
  by_cases h0 : N.length = 0
  ·omega
  ·obtain ⟨x, hx⟩ := getI N (show N.length - 1 < N.length by omega)
   have := lt_of_get (h hx); omega
 have : M.take N.length = N := by
  apply List.ext_getElem?
  intro i
  by_cases hi : i < N.length
  ·obtain ⟨x, hx⟩ := getI N hi
   rw [List.getElem?_take, if_pos hi, hx, h hx]
  ·rw [List.getElem?_take, if_neg hi, List.getElem?_eq_none (by omega)]
 have e : M = M.take N.length ++ M.drop N.length := (List.take_append_drop _ _).symm
 rw [this] at e
 rw [e]; exact vto_app _ _ _ k hk
theorem Grow.of {N M : List (Int × Int)} (h : Grow N M) (ins : List Bool) {l : Int} (hl : hasL N l) : ofL (values M ins) l = ofL (values N ins) l := by
 unfold hasL at hl
 rw [← vto_of M ins (k := N.length) (by omega) h.len, values_pre h.pre ins _ (Nat.le_refl _)]; rfl
theorem ofL_xor1 (v : List Bool) {l : Int} (h : 0 ≤ l) : ofL v (Lt.xor1 l) = !ofL v l := by
 unfold Lt.xor1 ofL
 split
 ·rw [show (l + 1) / 2 = l / 2 by omega, decide_eq_true (show (l + 1) % 2 = 1 by omega), decide_eq_false (show ¬ l % 2 = 1 by omega)]; simp
 ·rw [show (l - 1) / 2 = l / 2 by omega, decide_eq_false (show ¬ (l - 1) % 2 = 1 by omega), decide_eq_true (show l % 2 = 1 by omega)]; simp
theorem ofL_zero {N : List (Int × Int)} (ins : List Bool) : ofL (values N ins) 0 = false := by
 unfold ofL; rw [show ((0 : Int) / 2).toNat = 0 from rfl, values_zero]; rfl
theorem ofL_one {N : List (Int × Int)} (ins : List Bool) : ofL (values N ins) 1 = true := by
 unfold ofL; rw [show ((1 : Int) / 2).toNat = 0 from rfl, values_zero]; rfl
theorem ofL_gate {N : List (Int × Int)} (hg : GoodNet N) (ins : List Bool) {i : Nat} {x : Int × Int} (hx : N[i]? = some x) (h0 : 0 ≤ x.1) : ofL (values N ins) (2 * ((i : Int) + 1)) = (ofL (values N ins) x.1 && ofL (values N ins) x.2) := by
 conv => lhs; unfold ofL
 rw [show ((2 * ((i : Int) + 1)) / 2).toNat = i + 1 by omega, values_gate hg ins hx h0, decide_eq_false (by omega)]; simp
theorem andV_of {N : List (Int × Int)} (hT : Tidy N) (ins : List Bool) {x y : Int} (hx : hasL N x) (hy : hasL N y) : ofL (values (andV N x y).2 ins) (andV N x y).1 = (ofL (values N ins) x && ofL (values N ins) y) := by
 obtain ⟨a, b, hab, hle, hw⟩ := andV_ways N x y
 have hG : Grow N (andV N x y).2 := .gate x y (.refl N)
 have hT2 := hT.and x y
 have hh : hasL N a ∧ hasL N b := by rcases hab with ⟨rfl, rfl⟩ | ⟨rfl, rfl⟩; exact ⟨hx, hy⟩; exact ⟨hy, hx⟩
 have he : (ofL (values N ins) x && ofL (values N ins) y) = (ofL (values N ins) a && ofL (values N ins) b) := by
  rcases hab with ⟨rfl, rfl⟩ | ⟨rfl, rfl⟩
  ·rfl
  ·exact Bool.and_comm _ _
 rw [he]
 rcases hw with ⟨h1, _⟩ | ⟨_, h1, hw⟩ | ⟨_, _, h1, hw⟩ | ⟨_, h1, i, i1, i2, i3, hw⟩ | ⟨h0, h1, h2, hw⟩
 ·exact absurd hh h1
 ·rw [hw]
  show ofL (values N ins) 0 = _
  rw [ofL_zero]
  rcases h1 with rfl | rfl
  ·rw [ofL_zero]; rfl
  ·rw [ofL_xor1 _ hh.2.1]; simp
 ·rw [hw]
  show ofL (values N ins) b = _
  rcases h1 with rfl | rfl
  ·rw [ofL_one]; rfl
  ·simp
 ·rw [hw]
  exact ofL_gate hT.good ins i2 (by show 0 ≤ a; omega)
 ·rw [hw] at hG hT2 ⊢
  have hx2 : (N ++ [(a, b)])[N.length]? = some (a, b) := by simp
  show ofL (values (N ++ [(a, b)]) ins) _ = _
  rw [ofL_gate hT2.good ins hx2 (by show 0 ≤ a; omega)]
  show (ofL (values (N ++ [(a, b)]) ins) a && ofL (values (N ++ [(a, b)]) ins) b) = _
  rw [Grow.of hG ins hh.1, Grow.of hG ins hh.2]
end Go.Proofs.Yteidpnpbfagaeaa
namespace Go.Proofs.Yteidpnpbfagaeaa
open Go Go.Lt Go.RowKit
set_option linter.unusedVariables false
set_option linter.unusedSimpArgs false
set_option maxRecDepth 20000

theorem slices_CloneI (a : Option Addr) (cap : Nat) (l : List Int) (w : World) (R : Row 1 encI w a l) (hna : a = none → cap = 0) (hl : l.length ≤ 1048576) :
  Lt.Spec Try.prog 78 [.slice a l.length cap] w (IsFresh 1 encI 3 w l) := by
 by_cases ha : a = none
 ·subst ha
  have hl0 : l = [] := by
   cases l with
   | nil => rfl
   | cons x r => obtain ⟨b, off, h1, _⟩ := R.elem 0 x rfl; cases h1
  subst hl0
  refine Spec.of _ Try.func78 rfl Try.ntmps78 (by kernel_rfl) rfl ?_
  repeat' (first
   | (apply WL.eqSl tOk; (iterate 6 exact rfl))
   | (apply W.condKT; exact rfl; (focus (exact dec_true rfl; done)))
   | (show WL _ _ _ _ _ _ _; first | apply WL.nil | (refine WL.au (k := ?_)))
   | (show Z _ _ _ _ _; first | apply Z.then_normal | apply Z.then_ret)
   | (show W _ _ _ _ _ _; first | apply W.seq | apply W.region | apply W.ret)
   | fail)
  exact Z.body1 Try.results78 rfl fun m => ⟨(Ext.refl _).at m, none, 0, rfl, Own.nil⟩
 ·refine Spec.of _ Try.func78 rfl Try.ntmps78 (by kernel_rfl) rfl ?_
  repeat' (first
   | (apply WL.eqSl tOk; (iterate 6 exact rfl))
   | (apply W.condKF; exact rfl; (focus (exact dec_false ha; done)))
   | (apply WL.lit (len := 0) tOk; (iterate 6 exact rfl); (first | exact rfl | kernel_rfl | (simp [Instr.fill, catCells]; done)); exact rfl; intro gb w' hb hge hc hx; have hO0 := Own.of_block0 (enc := encI) (s := 1) hb hge)
   | (apply WL.appendS tOk encI_ok; (iterate 10 exact rfl); assumption; (exact extA); (first | exact rfl | (focus (simp only [List.length_set]; done)) | (focus (simp; done)) | (focus (simp [*]; done)) | omega | (focus (simp only [List.length_set]; omega))); assumption; (exact extA); (first | exact rfl | (focus (simp only [List.length_set]; done)) | (focus (simp; done)) | (focus (simp [*]; done)) | omega | (focus (simp only [List.length_set]; omega))); (first | assumption | (intro h; cases h) | exact Own.noneCap (by assumption)); exact rfl; (exact extA); (first | omega | (simp; omega) | (simp at *; omega)); intro a' cap' w' hO hX' hU hF)
   | (show WL _ _ _ _ _ _ _; first | apply WL.nil | (refine WL.au (k := ?_)))
   | (show Z _ _ _ _ _; apply Z.then_normal)
   | (show W _ _ _ _ _ _; first | apply W.seq | apply W.region | apply W.skip | apply W.ret)
   | fail)
  exact Z.body1 Try.results78 rfl fun m => ⟨Ext.at extA m, a', cap', by rw [List.nil_append], by rw [List.nil_append] at hO; exact hO⟩
theorem slices_CloneN (a : Option Addr) (cap : Nat) (l : List (Int × Int)) (w : World) (R : Row 2 encN w a l) (hna : a = none → cap = 0) (hl : l.length ≤ 1048576) :
  Lt.Spec Try.prog 116 [.slice a l.length cap] w (IsFresh 2 encN 105 w l) := by
 by_cases ha : a = none
 ·subst ha
  have hl0 : l = [] := by
   cases l with
   | nil => rfl
   | cons x r => obtain ⟨b, off, h1, _⟩ := R.elem 0 x rfl; cases h1
  subst hl0
  refine Spec.of _ Try.func116 rfl Try.ntmps116 (by kernel_rfl) rfl ?_
  repeat' (first
   | (apply WL.eqSl tOk; (iterate 6 exact rfl))
   | (apply W.condKT; exact rfl; (focus (exact dec_true rfl; done)))
   | (show WL _ _ _ _ _ _ _; first | apply WL.nil | (refine WL.au (k := ?_)))
   | (show Z _ _ _ _ _; first | apply Z.then_normal | apply Z.then_ret)
   | (show W _ _ _ _ _ _; first | apply W.seq | apply W.region | apply W.ret)
   | fail)
  exact Z.body1 Try.results116 rfl fun m => ⟨(Ext.refl _).at m, none, 0, rfl, Own.nil⟩
 ·refine Spec.of _ Try.func116 rfl Try.ntmps116 (by kernel_rfl) rfl ?_
  repeat' (first
   | (apply WL.eqSl tOk; (iterate 6 exact rfl))
   | (apply W.condKF; exact rfl; (focus (exact dec_false ha; done)))
   | (apply WL.lit (len := 0) tOk; (iterate 6 exact rfl); (first | exact rfl | kernel_rfl | (simp [Instr.fill, catCells]; done)); exact rfl; intro gb w' hb hge hc hx; have hO0 := Own.of_block0 (enc := encN) (s := 2) hb hge)
   | (apply WL.appendS tOk encN_ok; (iterate 10 exact rfl); assumption; (exact extA); (first | exact rfl | (focus (simp only [List.length_set]; done)) | (focus (simp; done)) | (focus (simp [*]; done)) | omega | (focus (simp only [List.length_set]; omega))); assumption; (exact extA); (first | exact rfl | (focus (simp only [List.length_set]; done)) | (focus (simp; done)) | (focus (simp [*]; done)) | omega | (focus (simp only [List.length_set]; omega))); (first | assumption | (intro h; cases h) | exact Own.noneCap (by assumption)); exact rfl; (exact extA); (first | omega | (simp; omega) | (simp at *; omega)); intro a' cap' w' hO hX' hU hF)
   | (show WL _ _ _ _ _ _ _; first | apply WL.nil | (refine WL.au (k := ?_)))
   | (show Z _ _ _ _ _; apply Z.then_normal)
   | (show W _ _ _ _ _ _; first | apply W.seq | apply W.region | apply W.skip | apply W.ret)
   | fail)
  exact Z.body1 Try.results116 rfl fun m => ⟨Ext.at extA m, a', cap', by rw [List.nil_append], by rw [List.nil_append] at hO; exact hO⟩
end Go.Proofs.Yteidpnpbfagaeaa
namespace Go.Proofs.Yteidpnpbfagaeaa
open Go Go.Lt Go.RowKit
set_option linter.unusedVariables false
set_option linter.unusedSimpArgs false
set_option maxRecDepth 20000

theorem aig_notA (l : Int) (w : World) (h : l ≤ 9223372036854775807) : Still Try.prog 114 [.int .i64 l] w (.int .i64 (notL l)) := by
 refine Spec.of _ Try.func114 rfl Try.ntmps114 (by kernel_rfl) rfl ?_
 repeat' (first
  | (apply WL.xorA; (iterate 4 exact rfl); omega)
  | (show WL _ _ _ _ _ _ _; first | apply WL.nil | (refine WL.au (k := ?_)))
  | (show Z _ _ _ _ _; first | apply Z.then_normal | apply Z.then_ret)
  | (show W _ _ _ _ _ _; first | apply W.seq | apply W.region | apply W.skip | apply W.ret | (apply W.condD; exact rfl; all_goals intro _))
  | fail)
 all_goals (refine Z.body1 Try.results114 rfl fun m => ⟨?_, m, rfl⟩; congr 1; unfold notL; first | rw [if_pos (by assumption)] | rw [if_neg (by assumption)])
end Go.Proofs.Yteidpnpbfagaeaa
namespace Go.Proofs.Yteidpnpbfagaeaa
open Go Go.Lt Go.RowKit
set_option linter.unusedVariables false
set_option linter.unusedSimpArgs false
set_option maxRecDepth 20000

abbrev AtSt (w0 : World) (gs r : Nat) (rest : List Piece) (q : Int × List (Int × Int)) (v : Value) (w' : World) : Prop :=
 Ext w0 w' ∧ ∃ a' cap', v = .int .i64 q.1 ∧ Sep w0.heap.size w' (stN w0.heap.size gs a' cap' r q.2 ++ rest)
abbrev Keeps (w0 : World) (gs r : Nat) (rest : List Piece) (p : World → Prop) : Prop :=
 ∀ w' a' cap' N', Ext w0 w' → Sep w0.heap.size w' (stN w0.heap.size gs a' cap' r N' ++ rest) → p w'

theorem aig_And (gs r cap : Nat) (a : Option Addr) (N : List (Int × Int)) (x y : Int) (rest : List Piece) (w w0 : World) (hX : Ext w0 w) (hS : Sep w0.heap.size w (stN w0.heap.size gs a cap r N ++ rest)) (hN : N.length < 1048576) :
  Lt.Spec Try.prog 113 [.pointer (some ⟨gs, 0, none⟩), .int .i64 x, .int .i64 y] w (AtSt w0 gs r rest (andV N x y)) := by
 by_cases hxy : x ≤ y
 ·refine (aig_AndLe gs r cap a N (gmN N) x y rest w w0 hX hS hN hxy).mono ?_
  rintro v w' ⟨h1, a', cap', h2, h3⟩
  rw [andF_M hxy] at h3
  have e : andV N x y = ((andF N (gmN N) x y).v, (andF N (gmN N) x y).N) := if_pos hxy
  rw [e]
  exact ⟨h1, a', cap', h2, h3⟩
 ·refine (aig_AndGt gs r cap a N (gmN N) x y rest w w0 hX hS hN (by omega)).mono ?_
  rintro v w' ⟨h1, a', cap', h2, h3⟩
  rw [andF_M (by omega)] at h3
  have e : andV N x y = ((andF N (gmN N) y x).v, (andF N (gmN N) y x).N) := if_neg hxy
  rw [e]
  exact ⟨h1, a', cap', h2, h3⟩
theorem aig_InputV (gs r cap : Nat) (a : Option Addr) (N : List (Int × Int)) (rest : List Piece) (w w0 : World) (hX : Ext w0 w) (hS : Sep w0.heap.size w (stN w0.heap.size gs a cap r N ++ rest)) (hN : N.length < 1048576) :
  Lt.Spec Try.prog 90 [.pointer (some ⟨gs, 0, none⟩)] w (AtSt w0 gs r rest (2 * ((N.length : Int) + 1), N ++ [(-1, 0)])) := by
 refine (aig_Input gs r cap a N (gmN N) rest w w0 hX hS hN).mono ?_
 rintro v w' ⟨h1, a', cap', h2, h3⟩
 have e : gmN N = gmN (N ++ [(-1, 0)]) := (gm_snoc_in N (x := (-1, 0)) (by decide)).symm
 rw [e] at h3
 exact ⟨h1, a', cap', h2, h3⟩
theorem aig_NewV (w w0 : World) (rest : List Piece) (hX : Ext w0 w) (hS : Sep w0.heap.size w rest) :
  Lt.Spec Try.prog 54 [] w (fun v w' => Ext w w' ∧ ∃ gs r, v = .pointer (some ⟨gs, 0, none⟩) ∧ Sep w0.heap.size w' (stN w0.heap.size gs none 0 r [] ++ rest)) := by
 refine Spec.of _ Try.func54 rfl Try.ntmps54 (by kernel_rfl) rfl ?_
 repeat' (first
  | ((apply WL.makeMap (kv := kvN) (vv := vvI); exact rfl; exact rfl; intro r w1 hM hge1 hx1))
  | (apply WL.build tOk; (iterate 7 exact rfl); kernel_rfl)
  | (apply WL.box; (iterate 3 exact rfl); intro gb w' hb hge hc hx; have hcc := hc; (first | (obtain ⟨h1, h2, h3, _⟩ := hc) | (obtain ⟨h1, h2, _⟩ := hc)))
  | (show WL _ _ _ _ _ _ _; first | apply WL.nil | (refine WL.au (k := ?_)))
  | (show Z _ _ _ _ _; apply Z.then_normal)
  | (show W _ _ _ _ _ _; first | apply W.seq | apply W.region | apply W.ret)
  | fail)
 have hB : w0.heap.size ≤ w.heap.size := hX.size
 have hS1 : Lt.Sep w0.heap.size w1 (pmap kvN vvI r [] :: rest) := Sep.newMap hS hx1 hM hge1 hB
 have hS2 : Lt.Sep w0.heap.size w1 (prow 2 encN 105 w0.heap.size none 0 [] :: pmap kvN vvI r [] :: rest) := Sep.newRow hS1 (Ext.refl _) Own.nil (fun k hk => by cases hk) (Nat.le_trans hB hx1.size)
 have hS : Lt.Sep w0.heap.size w' (stN w0.heap.size gb none 0 r [] ++ rest) := Sep.newCell hS2 hx hb hge (Nat.le_trans hB hx1.size)
 exact Z.body1 Try.results54 rfl fun m => ⟨Ext.at extA m, gb, r, rfl, hS.ext ((Ext.refl _).at m)⟩

noncomputable def orV (N : List (Int × Int)) (x y : Int) : Int × List (Int × Int) := (notL (andV N (notL x) (notL y)).1, (andV N (notL x) (notL y)).2)
noncomputable def muxV (N : List (Int × Int)) (c x y : Int) : Int × List (Int × Int) :=
 bif dec (hasL N c ∧ hasL N x ∧ hasL N y) then orV (andV (andV N c x).2 (notL c) y).2 (andV N c x).1 (andV (andV N c x).2 (notL c) y).1 else (-1, N)
noncomputable def xorV (N : List (Int × Int)) (x y : Int) : Int × List (Int × Int) := muxV N x (notL y) y
theorem notL_has {N : List (Int × Int)} {x : Int} (h : hasL N x) : hasL N (notL x) := by
 unfold hasL at h ⊢
 unfold notL Lt.xor1
 split
 ·omega
 ·split <;> omega
theorem notL_xor1 {x : Int} (h : 0 ≤ x) : notL x = Lt.xor1 x := by unfold notL; rw [if_neg (by omega)]
theorem orV_len (N : List (Int × Int)) (x y : Int) : N.length ≤ (orV N x y).2.length ∧ (orV N x y).2.length ≤ N.length + 1 := andV_len _ _ _
theorem orV_has {N : List (Int × Int)} {x y : Int} (hx : hasL N x) (hy : hasL N y) : hasL (orV N x y).2 (orV N x y).1 := notL_has (andV_has (notL_has hx) (notL_has hy))
theorem orV_grow (N : List (Int × Int)) (x y : Int) : Grow N (orV N x y).2 := .gate _ _ (.refl N)
theorem muxV_yes {N : List (Int × Int)} {c x y : Int} (h : hasL N c ∧ hasL N x ∧ hasL N y) : muxV N c x y = orV (andV (andV N c x).2 (notL c) y).2 (andV N c x).1 (andV (andV N c x).2 (notL c) y).1 := by unfold muxV; rw [dec_true h]; rfl
theorem muxV_no {N : List (Int × Int)} {c x y : Int} (h : ¬ (hasL N c ∧ hasL N x ∧ hasL N y)) : muxV N c x y = (-1, N) := by unfold muxV; rw [dec_false h]; rfl
theorem muxV_grow (N : List (Int × Int)) (c x y : Int) : Grow N (muxV N c x y).2 := by
 by_cases h : hasL N c ∧ hasL N x ∧ hasL N y
 ·rw [muxV_yes h]; exact .gate _ _ (.gate _ _ (.gate _ _ (.refl N)))
 ·rw [muxV_no h]; exact .refl N
theorem muxV_len (N : List (Int × Int)) (c x y : Int) : N.length ≤ (muxV N c x y).2.length ∧ (muxV N c x y).2.length ≤ N.length + 3 := by
 by_cases h : hasL N c ∧ hasL N x ∧ hasL N y
 ·rw [muxV_yes h]
  have h1 := andV_len N c x
  have h2 := andV_len (andV N c x).2 (notL c) y
  have h3 := orV_len (andV (andV N c x).2 (notL c) y).2 (andV N c x).1 (andV (andV N c x).2 (notL c) y).1
  omega
 ·rw [muxV_no h]; dsimp only; omega
theorem muxV_has {N : List (Int × Int)} {c x y : Int} (hc : hasL N c) (hx : hasL N x) (hy : hasL N y) : hasL (muxV N c x y).2 (muxV N c x y).1 := by
 rw [muxV_yes ⟨hc, hx, hy⟩]
 have l2 := (andV_len (andV N c x).2 (notL c) y).1
 have l1 := (andV_len N c x).1
 exact orV_has (hasL_mono (andV_has hc hx) l2) (andV_has (hasL_mono (notL_has hc) l1) (hasL_mono hy l1))
theorem aig_OrV (gs r cap : Nat) (a : Option Addr) (N : List (Int × Int)) (x y : Int) (rest : List Piece) (w w0 : World) (hX : Ext w0 w) (hS : Sep w0.heap.size w (stN w0.heap.size gs a cap r N ++ rest)) (hN : N.length < 1048576) (hbx : x ≤ 9223372036854775807) (hby : y ≤ 9223372036854775807) :
  Lt.Spec Try.prog 59 [.pointer (some ⟨gs, 0, none⟩), .int .i64 x, .int .i64 y] w (AtSt w0 gs r rest (orV N x y)) := by
 have hl := andV_len N (notL x) (notL y)
 have hle := andV_le N (notL x) (notL y)
 have hb9 : (andV N (notL x) (notL y)).1 ≤ 9223372036854775807 := by omega
 refine Spec.of _ Try.func59 rfl Try.ntmps59 (by kernel_rfl) rfl ?_
 repeat' (first
  | ((show WL _ _ _ (⟨_, .call ⟨.value (.func 114), _, _⟩, _, _, _, _⟩ :: _) _ _ _); apply WL.callS; (iterate 4 exact rfl); exact aig_notA _ _ (by assumption))
  | (((show WL _ _ _ (⟨_, .call ⟨.value (.func 113), _, _⟩, _, _, _, _⟩ :: _) _ _ _); apply WL.call; (iterate 4 exact rfl); exact aig_And gs r cap a N _ _ rest _ w0 hX hS hN; rintro v' w' ⟨hX2, a', cap', rfl, hS2⟩))
  | (show WL _ _ _ _ _ _ _; first | apply WL.nil | (refine WL.au (k := ?_)))
  | (show Z _ _ _ _ _; apply Z.then_normal)
  | (show W _ _ _ _ _ _; first | apply W.seq | apply W.region | apply W.ret)
  | fail)
 exact Z.body1 Try.results59 rfl fun m => ⟨hX2.at m, a', cap', rfl, hS2.ext ((Ext.refl _).at m)⟩

set_option maxHeartbeats 4000000 in
theorem aig_MuxV (gs r cap : Nat) (a : Option Addr) (N : List (Int × Int)) (c x y : Int) (rest : List Piece) (w w0 : World) (hX : Ext w0 w) (hS : Sep w0.heap.size w (stN w0.heap.size gs a cap r N ++ rest)) (hN : N.length + 3 < 1048576) (hbc : c ≤ 9223372036854775807) :
  Lt.Spec Try.prog 144 [.pointer (some ⟨gs, 0, none⟩), .int .i64 c, .int .i64 x, .int .i64 y] w (AtSt w0 gs r rest (muxV N c x y)) := by
 have hC0 := hS.cell (i := 0) rfl
 by_cases hh : hasL N c ∧ hasL N x ∧ hasL N y
 ·have hall : ∀ z ∈ [c, x, y], hasL N z := by
   intro z hz; simp only [List.mem_cons, List.not_mem_nil, or_false] at hz; rcases hz with rfl | rfl | rfl
   ·exact hh.1
   ·exact hh.2.1
   ·exact hh.2.2
  have e := muxV_yes hh
  have l1 := andV_len N c x
  have l2 := andV_len (andV N c x).2 (notL c) y
  have b1 := andV_has hh.1 hh.2.1
  have q0 : ¬ (andV N c x).1 < 0 := by have := b1.1; omega
  have q1 : (andV N c x).1 ≤ 9223372036854775807 := by have := b1.2; omega
  have q2 : (andV (andV N c x).2 (notL c) y).1 ≤ 9223372036854775807 := by have := andV_le (andV N c x).2 (notL c) y; omega
  have k1 : (andV N c x).2.length < 1048576 := by omega
  have k2 : (andV (andV N c x).2 (notL c) y).2.length < 1048576 := by omega
  refine Spec.of _ Try.func144 rfl Try.ntmps144 (by kernel_rfl) rfl ?_
  repeat' (first
   | (apply WL.lit tOk; (iterate 6 exact rfl); (first | exact rfl | kernel_rfl | (simp [Instr.fill, catCells]; done)); exact rfl; intro gb w' hb hge hc hx; have hO := Own.of_block ([c, x, y]) encI_ok hb hge rfl)
   | ((show WL _ _ _ (⟨_, .call ⟨.value (.func 111), _, _⟩, _, _, _, _⟩ :: _) _ _ _); apply WL.callP; (iterate 4 exact rfl); exact aig_has _ _ _ _ _ N [c, x, y] _ _ (Ext.heap extA hC0) (Own.row encI_ok (by assumption)) (by omega); intro w' hx)
   | (apply W.condKF; exact rfl; (focus ((rw [dec_true hall]; rfl); done)))
   | (show WL _ _ _ _ _ _ _; first | apply WL.nil | (refine WL.au (k := ?_)))
   | (show Z _ _ _ _ _; apply Z.then_normal)
   | (show W _ _ _ _ _ _; first | apply W.seq | apply W.region | apply W.skip)
   | fail)
  have hS1 := hS.ext (show Ext w w' from extA)
  have hX1 : Ext w0 w' := extA
  rw [e]
  repeat' (first
   | ((show WL _ _ _ (⟨_, .call ⟨.value (.func 114), _, _⟩, _, _, _, _⟩ :: _) _ _ _); apply WL.callS; (iterate 4 exact rfl); exact aig_notA _ _ (by assumption))
   | (apply W.condKF; exact rfl; (focus (exact dec_false q0; done)))
   | (((show WL _ _ _ (⟨_, .call ⟨.value (.func 113), _, _⟩, _, _, _, _⟩ :: _) _ _ _); apply WL.call; (iterate 4 exact rfl); exact aig_And gs r _ _ N _ _ rest _ w0 hX1 hS1 (by omega); rintro v' w' ⟨hX2, a', cap', rfl, hS2⟩))
   | (((show WL _ _ _ (⟨_, .call ⟨.value (.func 113), _, _⟩, _, _, _, _⟩ :: _) _ _ _); apply WL.call; (iterate 4 exact rfl); exact aig_And gs r _ _ (andV N c x).2 _ _ rest _ w0 hX2 hS2 k1; rintro v' w' ⟨hX2, a', cap', rfl, hS2⟩))
   | (((show WL _ _ _ (⟨_, .call ⟨.value (.func 59), _, _⟩, _, _, _, _⟩ :: _) _ _ _); apply WL.call; (iterate 4 exact rfl); exact aig_OrV gs r _ _ (andV (andV N c x).2 (notL c) y).2 _ _ rest _ w0 hX2 hS2 k2 q1 q2; rintro v' w' ⟨hX2, a', cap', rfl, hS2⟩))
   | (show WL _ _ _ _ _ _ _; first | apply WL.nil | (refine WL.au (k := ?_)))
   | (show Z _ _ _ _ _; apply Z.then_normal)
   | (show W _ _ _ _ _ _; first | apply W.seq | apply W.region | apply W.skip | apply W.ret)
   | fail)
  exact Z.body1 Try.results144 rfl fun m => ⟨hX2.at m, a', cap', rfl, hS2.ext ((Ext.refl _).at m)⟩
 ·have hall : ¬ ∀ z ∈ [c, x, y], hasL N z := fun h => hh ⟨h _ (by simp), h _ (by simp), h _ (by simp)⟩
  rw [muxV_no hh]
  refine Spec.of _ Try.func144 rfl Try.ntmps144 (by kernel_rfl) rfl ?_
  repeat' (first
   | (apply WL.lit tOk; (iterate 6 exact rfl); (first | exact rfl | kernel_rfl | (simp [Instr.fill, catCells]; done)); exact rfl; intro gb w' hb hge hc hx; have hO := Own.of_block ([c, x, y]) encI_ok hb hge rfl)
   | ((show WL _ _ _ (⟨_, .call ⟨.value (.func 111), _, _⟩, _, _, _, _⟩ :: _) _ _ _); apply WL.callP; (iterate 4 exact rfl); exact aig_has _ _ _ _ _ N [c, x, y] _ _ (Ext.heap extA hC0) (Own.row encI_ok (by assumption)) (by omega); intro w' hx)
   | (apply W.condKT; exact rfl; (focus ((rw [dec_false hall]; rfl); done)))
   | (show WL _ _ _ _ _ _ _; first | apply WL.nil | (refine WL.au (k := ?_)))
   | (show Z _ _ _ _ _; first | apply Z.then_normal | apply Z.then_ret)
   | (show W _ _ _ _ _ _; first | apply W.seq | apply W.region | apply W.ret)
   | fail)
  have hS1 := hS.ext (show Ext w w' from extA)
  exact Z.body1 Try.results144 rfl fun m => ⟨Ext.at extA m, a, cap, rfl, hS1.ext ((Ext.refl _).at m)⟩

theorem aig_XorV (gs r cap : Nat) (a : Option Addr) (N : List (Int × Int)) (x y : Int) (rest : List Piece) (w w0 : World) (hX : Ext w0 w) (hS : Sep w0.heap.size w (stN w0.heap.size gs a cap r N ++ rest)) (hN : N.length + 3 < 1048576) (hbx : x ≤ 9223372036854775807) (hby : y ≤ 9223372036854775807) :
  Lt.Spec Try.prog 94 [.pointer (some ⟨gs, 0, none⟩), .int .i64 x, .int .i64 y] w (AtSt w0 gs r rest (xorV N x y)) := by
 refine Spec.of _ Try.func94 rfl Try.ntmps94 (by kernel_rfl) rfl ?_
 repeat' (first
  | ((show WL _ _ _ (⟨_, .call ⟨.value (.func 114), _, _⟩, _, _, _, _⟩ :: _) _ _ _); apply WL.callS; (iterate 4 exact rfl); exact aig_notA _ _ (by assumption))
  | (((show WL _ _ _ (⟨_, .call ⟨.value (.func 144), _, _⟩, _, _, _, _⟩ :: _) _ _ _); apply WL.call; (iterate 4 exact rfl); exact aig_MuxV gs r cap a N _ _ _ rest _ w0 hX hS hN hbx; rintro v' w' ⟨hX2, a', cap', rfl, hS2⟩))
  | (show WL _ _ _ _ _ _ _; first | apply WL.nil | (refine WL.au (k := ?_)))
  | (show Z _ _ _ _ _; apply Z.then_normal)
  | (show W _ _ _ _ _ _; first | apply W.seq | apply W.region | apply W.ret)
  | fail)
 exact Z.body1 Try.results94 rfl fun m => ⟨hX2.at m, a', cap', rfl, hS2.ext ((Ext.refl _).at m)⟩

end Go.Proofs.Yteidpnpbfagaeaa
namespace Go.Proofs.Yteidpnpbfagaeaa
open Go Go.Lt Go.RowKit
set_option linter.unusedVariables false
set_option linter.unusedSimpArgs false
set_option maxRecDepth 20000

noncomputable def litI (l : List Int) (x : Int) : Int := xorI (l.getD (x / 2).toNat 0) (x % 2)
noncomputable def cstep (ins : List Int) (s : List Int × Nat × List (Int × Int)) (x : Int × Int) : List Int × Nat × List (Int × Int) :=
 if 0 ≤ x.1 then (s.1 ++ [(andV s.2.2 (litI s.1 x.1) (litI s.1 x.2)).1], s.2.1, (andV s.2.2 (litI s.1 x.1) (litI s.1 x.2)).2)
 else if s.2.1 < ins.length then (s.1 ++ [ins.getD s.2.1 0], s.2.1 + 1, s.2.2)
 else (s.1 ++ [2 * ((s.2.2.length : Int) + 1)], s.2.1 + 1, s.2.2 ++ [(-1, 0)])
noncomputable def cto (N n : List (Int × Int)) (ins : List Int) (k : Nat) : List Int × Nat × List (Int × Int) := (n.take k).foldl (cstep ins) ([0], 0, N)
noncomputable def copyV (N n : List (Int × Int)) (ins : List Int) : List Int × List (Int × Int) := bif dec (∀ z ∈ ins, hasL N z) then ((cto N n ins n.length).1, (cto N n ins n.length).2.2) else ([], N)
theorem cto_succ {N n : List (Int × Int)} {ins : List Int} {k : Nat} {x : Int × Int} (h : n[k]? = some x) : cto N n ins (k + 1) = cstep ins (cto N n ins k) x := by
 unfold cto; rw [take_succ' h, List.foldl_append]; rfl
theorem hasL_xor1 {N : List (Int × Int)} {x : Int} (h : hasL N x) : hasL N (Lt.xor1 x) := by
 unfold hasL at h ⊢
 unfold Lt.xor1
 split <;> omega
theorem hasL_litI {N : List (Int × Int)} {l : List Int} {x : Int} (h : ∀ z ∈ l, hasL N z) (hx : (x / 2).toNat < l.length) : hasL N (litI l x) := by
 obtain ⟨z, hz⟩ := getI l hx
 have := h z (List.mem_of_getElem? hz)
 unfold litI xorI
 rw [getD_of hz]
 split
 ·exact hasL_xor1 this
 ·exact this
theorem cto_inv {N n : List (Int × Int)} {ins : List Int} (hg : GoodNet n) (h : ∀ z ∈ ins, hasL N z) : ∀ k, k ≤ n.length →
  (cto N n ins k).1.length = k + 1 ∧ (∀ z ∈ (cto N n ins k).1, hasL (cto N n ins k).2.2 z) ∧ N.length ≤ (cto N n ins k).2.2.length ∧ (cto N n ins k).2.2.length ≤ N.length + k ∧ Grow N (cto N n ins k).2.2 ∧ (cto N n ins k).2.1 ≤ k
 | 0, _ => by
  refine ⟨rfl, fun z hz => ?_, Nat.le_refl _, Nat.le_refl _, .refl N, Nat.le_refl _⟩
  obtain rfl : z = 0 := by simpa [cto] using hz
  unfold hasL; omega
 | k + 1, hk => by
  obtain ⟨x, hx⟩ := getI n (show k < n.length by omega)
  obtain ⟨i1, i2, i3, i4, i5, i6⟩ := cto_inv hg h k (by omega)
  rw [cto_succ hx]
  generalize cto N n ins k = s at i1 i2 i3 i4 i5 i6
  unfold cstep
  split
  ·rename_i h0
   have hgt := hg.gate hx h0
   have hl := andV_len s.2.2 (litI s.1 x.1) (litI s.1 x.2)
   have hv := andV_has (hasL_litI i2 (x := x.1) (by omega)) (hasL_litI i2 (x := x.2) (by omega))
   refine ⟨by simp [i1], fun z hz => ?_, by dsimp only; omega, by dsimp only; omega, .gate _ _ i5, by dsimp only; omega⟩
   rcases List.mem_append.1 hz with h1 | h1
   ·exact hasL_mono (i2 z h1) hl.1
   ·obtain rfl := List.mem_singleton.1 h1; exact hv
  ·split
   ·rename_i h0 h1
    refine ⟨by simp [i1], fun z hz => ?_, i3, by dsimp only; omega, i5, by dsimp only; omega⟩
    rcases List.mem_append.1 hz with h2 | h2
    ·exact i2 z h2
    ·obtain rfl := List.mem_singleton.1 h2
     obtain ⟨y, hy⟩ := getI ins h1
     rw [getD_of hy]
     exact hasL_mono (h y (List.mem_of_getElem? hy)) i3
   ·refine ⟨by simp [i1], fun z hz => ?_, by simp; omega, by simp; omega, .input i5, by dsimp only; omega⟩
    rcases List.mem_append.1 hz with h2 | h2
    ·exact hasL_mono (i2 z h2) (by simp)
    ·obtain rfl := List.mem_singleton.1 h2
     unfold hasL; simp; omega

theorem Sep.back32 {B : Nat} {w : World} {p q a b c : Piece} {rs : List Piece} (hS : Sep B w (p :: q :: a :: b :: c :: rs)) : Sep B w (a :: b :: c :: p :: q :: rs) := by
 refine Sep.sub' (fun i => if i < 3 then i + 2 else if i < 5 then i - 3 else i) hS (fun i x h => ?_) (fun i j hi hj hne => ?_)
 ·match i, h with
  | 0, h => exact h
  | 1, h => exact h
  | 2, h => exact h
  | 3, h => exact h
  | 4, h => exact h
  | i + 5, h =>
   simp only [show ¬ i + 5 < 3 by omega, show ¬ i + 5 < 5 by omega, if_false]; exact h
 ·split <;> split <;> (try split) <;> (try split) <;> omega
theorem Sep.back31 {B : Nat} {w : World} {p a b c : Piece} {rs : List Piece} (hS : Sep B w (p :: a :: b :: c :: rs)) : Sep B w (a :: b :: c :: p :: rs) := by
 refine Sep.sub' (fun i => if i < 3 then i + 1 else if i < 4 then i - 3 else i) hS (fun i x h => ?_) (fun i j hi hj hne => ?_)
 ·match i, h with
  | 0, h => exact h
  | 1, h => exact h
  | 2, h => exact h
  | 3, h => exact h
  | i + 4, h =>
   simp only [show ¬ i + 4 < 3 by omega, show ¬ i + 4 < 4 by omega, if_false]; exact h
 ·split <;> split <;> (try split) <;> (try split) <;> omega
theorem Sep.drop34 {B : Nat} {w : World} {p q a b c : Piece} {rs : List Piece} (hS : Sep B w (a :: b :: c :: p :: q :: rs)) : Sep B w (a :: b :: c :: rs) := by
 refine Sep.sub' (fun i => if i < 3 then i else i + 2) hS (fun i x h => ?_) (fun i j hi hj hne => ?_)
 ·match i, h with
  | 0, h => exact h
  | 1, h => exact h
  | 2, h => exact h
  | i + 3, h => simp only [show ¬ i + 3 < 3 by omega, if_false]; exact h
 ·split <;> split <;> omega
theorem Sep.drop3 {B : Nat} {w : World} {p a b c : Piece} {rs : List Piece} (hS : Sep B w (a :: b :: c :: p :: rs)) : Sep B w (a :: b :: c :: rs) := by
 refine Sep.sub' (fun i => if i < 3 then i else i + 1) hS (fun i x h => ?_) (fun i j hi hj hne => ?_)
 ·match i, h with
  | 0, h => exact h
  | 1, h => exact h
  | 2, h => exact h
  | i + 3, h => simp only [show ¬ i + 3 < 3 by omega, if_false]; exact h
 ·split <;> split <;> omega

theorem aig_Copy1 (g7 lc : Nat) (la : Option Addr) (L : List Int) (x z : Int) (w : World) (hc : w.heap[g7]? = some (.cells #[.slice la L.length lc] 22 (0, 0))) (RL : Row 1 encI w la L) (hz : L[(x / 2).toNat]? = some z) (hx : 0 ≤ x ∧ x ≤ 9223372036854775807) (hz0 : 0 ≤ z ∧ z ≤ 9223372036854775806) :
  Still Try.prog 112 ([.int .i64 x] ++ [.pointer (some ⟨g7, 0, none⟩)]) w (.int .i64 (litI L x)) := by
 obtain ⟨h1, _⟩ := cells_heap hc
 have hl := RL.len
 rw [litI, getD_of hz]
 refine Spec.of _ Try.func112 rfl Try.ntmps112 (by kernel_rfl) rfl ?_
 repeat' (first
  | (apply WL.and1; (iterate 4 exact rfl); omega)
  | (apply WL.xorI; (iterate 4 exact rfl); omega; omega)
  | (show WL _ _ _ _ _ _ _; first | apply WL.nil | (refine WL.au (k := ?_)) | (apply WL.index tOk; (iterate 8 exact rfl); assumption; (exact extA); exact rfl; omega; assumption; intro b off h; have hcc := h; first | (obtain ⟨h1, h2, h3, h4, h5, h6, _⟩ := h) | (obtain ⟨h1, h2, h3, _⟩ := h) | (obtain ⟨h1, h2, _⟩ := h) | (obtain ⟨h1, _⟩ := h)))
  | (show Z _ _ _ _ _; apply Z.then_normal)
  | (show W _ _ _ _ _ _; first | apply W.seq | apply W.region | apply W.ret)
  | fail)
 exact Z.body1 Try.results112 rfl fun m => ⟨rfl, m, rfl⟩

abbrev AtCopy (w0 : World) (gs r : Nat) (rest : List Piece) (q : List Int × List (Int × Int)) (v : Value) (w' : World) : Prop :=
 Ext w0 w' ∧ ∃ a' cap' la lc, v = .slice la q.1.length lc ∧ Sep w0.heap.size w' (stN w0.heap.size gs a' cap' r q.2 ++ (prow 1 encI 3 w0.heap.size la lc q.1 :: rest))

set_option maxHeartbeats 8000000 in
theorem aig_CopyV (gs r cap cn cl : Nat) (a an al : Option Addr) (N n : List (Int × Int)) (ins : List Int) (rest : List Piece) (w w0 : World) (hX : Ext w0 w) (hS : Sep w0.heap.size w (stN w0.heap.size gs a cap r N ++ rest)) (hN : N.length + n.length < 1048576) (hg : GoodNet n) (hcl : ins.length ≤ cl)
  (hn : Keeps w0 gs r rest (fun w' => Row 2 encN w' an n)) (hi : Keeps w0 gs r rest (fun w' => Row 1 encI w' al ins)) :
  Lt.Spec Try.prog 55 [.pointer (some ⟨gs, 0, none⟩), .slice an n.length cn, .slice al ins.length cl] w (AtCopy w0 gs r rest (copyV N n ins)) := by
 have hC0 := hS.cell (i := 0) rfl
 have RI := hi w a cap N hX hS
 have hli := RI.len
 by_cases hh : ∀ z ∈ ins, hasL N z
 ·have e : copyV N n ins = ((cto N n ins n.length).1, (cto N n ins n.length).2.2) := by unfold copyV; rw [dec_true hh]; rfl
  rw [e]
  refine Spec.of _ Try.func55 rfl Try.ntmps55 (by kernel_rfl) rfl ?_
  repeat' (first
   | ((show WL _ _ _ (⟨_, .call ⟨.value (.func 111), _, _⟩, _, _, _, _⟩ :: _) _ _ _); apply WL.callP; (iterate 4 exact rfl); exact aig_has _ _ _ _ _ N ins _ _ hC0 RI (by omega); intro w' hx)
   | (apply W.condKF; exact rfl; (focus ((rw [dec_true hh]; rfl); done)))
   | (show WL _ _ _ _ _ _ _; first | apply WL.nil | (refine WL.au (k := ?_)))
   | (show Z _ _ _ _ _; apply Z.then_normal)
   | (show W _ _ _ _ _ _; first | apply W.seq | apply W.region | apply W.skip)
   | fail)
  have hx1 := hx
  obtain ⟨w1, rfl⟩ : ∃ x, x = w' := ⟨_, rfl⟩
  replace hS := hS.ext hx1
  have hX1 : Ext w0 w1 := hX.trans hx1
  repeat' (first
   | (apply WL.makeC (w0 := w0) (z := (0:Int)) tOk; (iterate 9 exact rfl); exact encI_ok; exact rfl; exact rfl; (exact extA); (first | omega | (simp; omega) | (simp at *; omega)); intro gb w' hO hge hx)
   | fail)
  obtain ⟨gl, rfl⟩ : ∃ x, x = gb := ⟨_, rfl⟩
  replace hS := Sep.newRow hS hx (hO : Own 1 encI 3 w0.heap.size w' _ _ [0]) (fun k hk => by cases hk; exact hge) hX1.size
  repeat' (first
   | (apply WL.alloc tOk; (iterate 3 exact rfl); intro gb w' hb hge hx; replace hS := Sep.newCell (Sep.ext hS extA) hx hb hge (by (first | exact Nat.le_refl _ | exact Below.size extA)); (try simp only [List.set_cons_zero, List.set_cons_succ] at hS); (try have hR0 := hS.row (i := 0) rfl); (try have hR1 := hS.row (i := 1) rfl); (try have hR2 := hS.row (i := 2) rfl); (try have hR3 := hS.row (i := 3) rfl); (try have hR4 := hS.row (i := 4) rfl); (try have hC0 := hS.cell (i := 0) rfl); (try have hD0 := (cells_heap hC0).1); (try have hE0 := (cells_heap hC0).2.1); (try have hF0 := (cells_heap hC0).2.2.1); (try have hG0 := (cells_heap hC0).2.2.2.1); (try have hC1 := hS.cell (i := 1) rfl); (try have hD1 := (cells_heap hC1).1); (try have hE1 := (cells_heap hC1).2.1); (try have hF1 := (cells_heap hC1).2.2.1); (try have hG1 := (cells_heap hC1).2.2.2.1); (try have hC2 := hS.cell (i := 2) rfl); (try have hD2 := (cells_heap hC2).1); (try have hE2 := (cells_heap hC2).2.1); (try have hF2 := (cells_heap hC2).2.2.1); (try have hG2 := (cells_heap hC2).2.2.2.1); (try have hC3 := hS.cell (i := 3) rfl); (try have hD3 := (cells_heap hC3).1); (try have hE3 := (cells_heap hC3).2.1); (try have hF3 := (cells_heap hC3).2.2.1); (try have hG3 := (cells_heap hC3).2.2.2.1); (try have hC4 := hS.cell (i := 4) rfl); (try have hD4 := (cells_heap hC4).1); (try have hE4 := (cells_heap hC4).2.1); (try have hF4 := (cells_heap hC4).2.2.1); (try have hG4 := (cells_heap hC4).2.2.2.1); (try have hM0 := hS.map (i := 0) rfl); (try have hM1 := hS.map (i := 1) rfl); (try have hM2 := hS.map (i := 2) rfl); (try have hM3 := hS.map (i := 3) rfl); (try have hM4 := hS.map (i := 4) rfl))
   | (apply WL.storeB (w0 := w0) tOk; (iterate 4 exact rfl); assumption; (exact extA); (iterate 3 exact rfl); (exact extA); (first | assumption | omega | (focus (apply Nat.le_trans; rotate_left; assumption; exact Below.size extA; done))); intro w' hb hc hX' hU; have hcc := hc; obtain ⟨h1, h2, _⟩ := hc; (first | replace hS := Sep.updCell (i := 0) rfl hU hb hS extA (by (first | exact Nat.le_refl _ | exact Below.size extA)) | replace hS := Sep.updCell (i := 1) rfl hU hb hS extA (by (first | exact Nat.le_refl _ | exact Below.size extA)) | replace hS := Sep.updCell (i := 2) rfl hU hb hS extA (by (first | exact Nat.le_refl _ | exact Below.size extA)) | replace hS := Sep.updCell (i := 3) rfl hU hb hS extA (by (first | exact Nat.le_refl _ | exact Below.size extA))); (try simp only [List.set_cons_zero, List.set_cons_succ] at hS); (try have hR0 := hS.row (i := 0) rfl); (try have hR1 := hS.row (i := 1) rfl); (try have hR2 := hS.row (i := 2) rfl); (try have hR3 := hS.row (i := 3) rfl); (try have hR4 := hS.row (i := 4) rfl); (try have hC0 := hS.cell (i := 0) rfl); (try have hD0 := (cells_heap hC0).1); (try have hE0 := (cells_heap hC0).2.1); (try have hF0 := (cells_heap hC0).2.2.1); (try have hG0 := (cells_heap hC0).2.2.2.1); (try have hC1 := hS.cell (i := 1) rfl); (try have hD1 := (cells_heap hC1).1); (try have hE1 := (cells_heap hC1).2.1); (try have hF1 := (cells_heap hC1).2.2.1); (try have hG1 := (cells_heap hC1).2.2.2.1); (try have hC2 := hS.cell (i := 2) rfl); (try have hD2 := (cells_heap hC2).1); (try have hE2 := (cells_heap hC2).2.1); (try have hF2 := (cells_heap hC2).2.2.1); (try have hG2 := (cells_heap hC2).2.2.2.1); (try have hC3 := hS.cell (i := 3) rfl); (try have hD3 := (cells_heap hC3).1); (try have hE3 := (cells_heap hC3).2.1); (try have hF3 := (cells_heap hC3).2.2.1); (try have hG3 := (cells_heap hC3).2.2.2.1); (try have hC4 := hS.cell (i := 4) rfl); (try have hD4 := (cells_heap hC4).1); (try have hE4 := (cells_heap hC4).2.1); (try have hF4 := (cells_heap hC4).2.2.1); (try have hG4 := (cells_heap hC4).2.2.2.1); (try have hM0 := hS.map (i := 0) rfl); (try have hM1 := hS.map (i := 1) rfl); (try have hM2 := hS.map (i := 2) rfl); (try have hM3 := hS.map (i := 3) rfl); (try have hM4 := hS.map (i := 4) rfl))
   | (show WL _ _ _ _ _ _ _; first | apply WL.nil | (refine WL.au (k := ?_)))
   | (show Z _ _ _ _ _; apply Z.then_normal)
   | (show W _ _ _ _ _ _; first | apply W.seq | apply W.region | apply W.block)
   | fail)
  have hS0 := Sep.back32 hS
  obtain ⟨g7, rfl⟩ : ∃ x, x = gb := ⟨_, rfl⟩
  refine W.loopO2 n.length (fun k la lc bi bd w' => k ≤ n.length ∧ Ext w0 w' ∧ (∃ a' cap', Sep w0.heap.size w' (stN w0.heap.size gs a' cap' r (cto N n ins k).2.2 ++ (pcell g7 #[.slice la (cto N n ins k).1.length lc] 22 :: prow 1 encI 3 w0.heap.size la lc (cto N n ins k).1 :: rest))) ∧ Keeps w0 gs r rest (fun w' => Row 1 encI w' bi (ins.drop (cto N n ins k).2.1)) ∧ (ins.drop (cto N n ins k).2.1).length ≤ bd)
   (fun k la lc bi bd => [(0, .pointer (some ⟨gs, 0, none⟩)), (2, .slice bi (ins.drop (cto N n ins k).2.1).length bd), (7, .pointer (some ⟨g7, 0, none⟩)), (8, .func (.func 112) #[] #[.pointer (some ⟨g7, 0, none⟩)]), (21, .slice an n.length cn), (22, .int .i64 n.length), (23, .int .i64 k)])
   (some ⟨gl, 0, none⟩) _ al cl ⟨by omega, extA, ⟨a, cap, hS0⟩, hi, hcl⟩ (fun k la lc bi bd w' h => h.1) ⟨rfl, rfl, rfl, rfl, rfl, rfl, rfl, trivial⟩ ?_
  rintro k la lc bi bd w9 ⟨hk, hX9, ⟨a2, cap2, hS9⟩, hib, hbd⟩
  obtain ⟨i1, i2, i3, i4, i5, i6⟩ := cto_inv (N := N) hg hh k hk
  have Rn := hn _ _ _ _ hX9 (Sep.drop34 hS9)
  have Ri := hib _ _ _ _ hX9 (Sep.drop34 hS9)
  have hS := hS9
  by_cases hlt : k < n.length
  ·obtain ⟨x, hxn⟩ := getI n hlt
   have hs := cto_succ (N := N) (ins := ins) hxn
   by_cases hin : 0 ≤ x.1
   ·have hgt := hg.gate hxn hin
    obtain ⟨za, hza⟩ := getI (cto N n ins k).1 (show (x.1 / 2).toNat < (cto N n ins k).1.length by omega)
    obtain ⟨zb, hzb⟩ := getI (cto N n ins k).1 (show (x.2 / 2).toNat < (cto N n ins k).1.length by omega)
    have ba : 0 ≤ za ∧ za ≤ 9223372036854775806 := by have := i2 za (List.mem_of_getElem? hza); unfold hasL at this; omega
    have bb : 0 ≤ zb ∧ zb ≤ 9223372036854775806 := by have := i2 zb (List.mem_of_getElem? hzb); unfold hasL at this; omega
    have hv := andV_has (hasL_litI i2 (x := x.1) (by omega)) (hasL_litI i2 (x := x.2) (by omega))
    have q0 : ¬ (andV (cto N n ins k).2.2 (litI (cto N n ins k).1 x.1) (litI (cto N n ins k).1 x.2)).1 < 0 := by have := hv.1; omega
    have e1 : (cto N n ins (k + 1)).1 = (cto N n ins k).1 ++ [(andV (cto N n ins k).2.2 (litI (cto N n ins k).1 x.1) (litI (cto N n ins k).1 x.2)).1] := by rw [hs, cstep, if_pos hin]
    have e2 : (cto N n ins (k + 1)).2.1 = (cto N n ins k).2.1 := by rw [hs, cstep, if_pos hin]
    have e3 : (cto N n ins (k + 1)).2.2 = (andV (cto N n ins k).2.2 (litI (cto N n ins k).1 x.1) (litI (cto N n ins k).1 x.2)).2 := by rw [hs, cstep, if_pos hin]
    repeat' (first
     | (apply W.condKT; exact rfl; (focus (first | exact dec_true (by omega) | exact dec_false q0; done)))
     | (apply WL.alloc tOk; (iterate 3 exact rfl); intro gb w' hb hge hx; replace hS := Sep.newCell (Sep.ext hS extA) hx hb hge (by (first | exact Nat.le_refl _ | exact Below.size extA)); (try simp only [List.set_cons_zero, List.set_cons_succ] at hS); (try have hR0 := hS.row (i := 0) rfl); (try have hR1 := hS.row (i := 1) rfl); (try have hR2 := hS.row (i := 2) rfl); (try have hR3 := hS.row (i := 3) rfl); (try have hR4 := hS.row (i := 4) rfl); (try have hC0 := hS.cell (i := 0) rfl); (try have hD0 := (cells_heap hC0).1); (try have hE0 := (cells_heap hC0).2.1); (try have hF0 := (cells_heap hC0).2.2.1); (try have hG0 := (cells_heap hC0).2.2.2.1); (try have hC1 := hS.cell (i := 1) rfl); (try have hD1 := (cells_heap hC1).1); (try have hE1 := (cells_heap hC1).2.1); (try have hF1 := (cells_heap hC1).2.2.1); (try have hG1 := (cells_heap hC1).2.2.2.1); (try have hC2 := hS.cell (i := 2) rfl); (try have hD2 := (cells_heap hC2).1); (try have hE2 := (cells_heap hC2).2.1); (try have hF2 := (cells_heap hC2).2.2.1); (try have hG2 := (cells_heap hC2).2.2.2.1); (try have hC3 := hS.cell (i := 3) rfl); (try have hD3 := (cells_heap hC3).1); (try have hE3 := (cells_heap hC3).2.1); (try have hF3 := (cells_heap hC3).2.2.1); (try have hG3 := (cells_heap hC3).2.2.2.1); (try have hC4 := hS.cell (i := 4) rfl); (try have hD4 := (cells_heap hC4).1); (try have hE4 := (cells_heap hC4).2.1); (try have hF4 := (cells_heap hC4).2.2.1); (try have hG4 := (cells_heap hC4).2.2.2.1); (try have hM0 := hS.map (i := 0) rfl); (try have hM1 := hS.map (i := 1) rfl); (try have hM2 := hS.map (i := 2) rfl); (try have hM3 := hS.map (i := 3) rfl); (try have hM4 := hS.map (i := 4) rfl))
     | (apply WL.storeB (w0 := w0) tOk; (iterate 4 exact rfl); assumption; (exact extA); (iterate 3 exact rfl); (exact extA); (first | assumption | omega | (focus (apply Nat.le_trans; rotate_left; assumption; exact Below.size extA; done))); intro w' hb hc hX' hU; have hcc := hc; obtain ⟨h1, h2, _⟩ := hc; (first | replace hS := Sep.updCell (i := 0) rfl hU hb hS extA (by (first | exact Nat.le_refl _ | exact Below.size extA)) | replace hS := Sep.updCell (i := 1) rfl hU hb hS extA (by (first | exact Nat.le_refl _ | exact Below.size extA)) | replace hS := Sep.updCell (i := 2) rfl hU hb hS extA (by (first | exact Nat.le_refl _ | exact Below.size extA)) | replace hS := Sep.updCell (i := 3) rfl hU hb hS extA (by (first | exact Nat.le_refl _ | exact Below.size extA))); (try simp only [List.set_cons_zero, List.set_cons_succ] at hS); (try have hR0 := hS.row (i := 0) rfl); (try have hR1 := hS.row (i := 1) rfl); (try have hR2 := hS.row (i := 2) rfl); (try have hR3 := hS.row (i := 3) rfl); (try have hR4 := hS.row (i := 4) rfl); (try have hC0 := hS.cell (i := 0) rfl); (try have hD0 := (cells_heap hC0).1); (try have hE0 := (cells_heap hC0).2.1); (try have hF0 := (cells_heap hC0).2.2.1); (try have hG0 := (cells_heap hC0).2.2.2.1); (try have hC1 := hS.cell (i := 1) rfl); (try have hD1 := (cells_heap hC1).1); (try have hE1 := (cells_heap hC1).2.1); (try have hF1 := (cells_heap hC1).2.2.1); (try have hG1 := (cells_heap hC1).2.2.2.1); (try have hC2 := hS.cell (i := 2) rfl); (try have hD2 := (cells_heap hC2).1); (try have hE2 := (cells_heap hC2).2.1); (try have hF2 := (cells_heap hC2).2.2.1); (try have hG2 := (cells_heap hC2).2.2.2.1); (try have hC3 := hS.cell (i := 3) rfl); (try have hD3 := (cells_heap hC3).1); (try have hE3 := (cells_heap hC3).2.1); (try have hF3 := (cells_heap hC3).2.2.1); (try have hG3 := (cells_heap hC3).2.2.2.1); (try have hC4 := hS.cell (i := 4) rfl); (try have hD4 := (cells_heap hC4).1); (try have hE4 := (cells_heap hC4).2.1); (try have hF4 := (cells_heap hC4).2.2.1); (try have hG4 := (cells_heap hC4).2.2.2.1); (try have hM0 := hS.map (i := 0) rfl); (try have hM1 := hS.map (i := 1) rfl); (try have hM2 := hS.map (i := 2) rfl); (try have hM3 := hS.map (i := 3) rfl); (try have hM4 := hS.map (i := 4) rfl))
     | (apply W.regionQS 9 tMix; kernel_rfl; exact rfl; kernel_rfl; kernel_rfl)
     | ((show QL _ _ _ _ (⟨_, .call ⟨.value (.tmp _), _, _⟩, _, _, _, _⟩ :: _) _ _); apply QL.callS; (iterate 4 exact rfl); exact aig_Copy1 g7 lc la (cto N n ins k).1 x.1 za _ (Ext.heap extA (hS.cell (i := 4) rfl)) (Row.ext (Own.row encI_ok (hS.row (i := 5) rfl)) extA) hza (by omega) ba)
     | ((show QL _ _ _ _ (⟨_, .call ⟨.value (.tmp _), _, _⟩, _, _, _, _⟩ :: _) _ _); apply QL.callS; (iterate 4 exact rfl); exact aig_Copy1 g7 lc la (cto N n ins k).1 x.2 zb _ (Ext.heap extA (hS.cell (i := 4) rfl)) (Row.ext (Own.row encI_ok (hS.row (i := 5) rfl)) extA) hzb (by omega) bb)
     | (show WL _ _ _ _ _ _ _; first | apply WL.nil | (refine WL.au (k := ?_)) | (apply WL.index tOk; (iterate 8 exact rfl); assumption; (exact extA); exact rfl; omega; assumption; intro b off h; have hcc := h; first | (obtain ⟨h1, h2, h3, h4, h5, h6, _⟩ := h) | (obtain ⟨h1, h2, h3, _⟩ := h) | (obtain ⟨h1, h2, _⟩ := h) | (obtain ⟨h1, _⟩ := h)))
     | (show QL _ _ _ _ _ _ _; first | apply QL.nil | (refine QL.au (k := ?_)))
     | (show Z _ _ _ _ _; first | apply Z.tail | apply Z.then_normal)
     | (show W _ _ _ _ _ _; first | apply W.seq | apply W.region | apply W.block | apply W.skip)
     | fail)
    repeat' (first
     | (((show WL _ _ _ (⟨_, .call ⟨.value (.func 113), _, _⟩, _, _, _, _⟩ :: _) _ _ _); have hS8 : Lt.Sep w0.heap.size _ (stN w0.heap.size gs a2 cap2 r (cto N n ins k).2.2 ++ (pcell g7 #[.slice la (cto N n ins k).1.length lc] 22 :: prow 1 encI 3 w0.heap.size la lc (cto N n ins k).1 :: rest)) := Sep.tail hS; apply WL.call; (iterate 4 exact rfl); exact aig_And gs r _ _ (cto N n ins k).2.2 _ _ (pcell g7 #[.slice la (cto N n ins k).1.length lc] 22 :: prow 1 encI 3 w0.heap.size la lc (cto N n ins k).1 :: rest) _ w0 extA hS8 (by omega); rintro v' w8 ⟨hX8, a8, cap8, rfl, hS⟩; (try simp only [List.set_cons_zero, List.set_cons_succ] at hS); (try have hR0 := hS.row (i := 0) rfl); (try have hR1 := hS.row (i := 1) rfl); (try have hR2 := hS.row (i := 2) rfl); (try have hR3 := hS.row (i := 3) rfl); (try have hR4 := hS.row (i := 4) rfl); (try have hC0 := hS.cell (i := 0) rfl); (try have hD0 := (cells_heap hC0).1); (try have hE0 := (cells_heap hC0).2.1); (try have hF0 := (cells_heap hC0).2.2.1); (try have hG0 := (cells_heap hC0).2.2.2.1); (try have hC1 := hS.cell (i := 1) rfl); (try have hD1 := (cells_heap hC1).1); (try have hE1 := (cells_heap hC1).2.1); (try have hF1 := (cells_heap hC1).2.2.1); (try have hG1 := (cells_heap hC1).2.2.2.1); (try have hC2 := hS.cell (i := 2) rfl); (try have hD2 := (cells_heap hC2).1); (try have hE2 := (cells_heap hC2).2.1); (try have hF2 := (cells_heap hC2).2.2.1); (try have hG2 := (cells_heap hC2).2.2.2.1); (try have hC3 := hS.cell (i := 3) rfl); (try have hD3 := (cells_heap hC3).1); (try have hE3 := (cells_heap hC3).2.1); (try have hF3 := (cells_heap hC3).2.2.1); (try have hG3 := (cells_heap hC3).2.2.2.1); (try have hC4 := hS.cell (i := 4) rfl); (try have hD4 := (cells_heap hC4).1); (try have hE4 := (cells_heap hC4).2.1); (try have hF4 := (cells_heap hC4).2.2.1); (try have hG4 := (cells_heap hC4).2.2.2.1); (try have hM0 := hS.map (i := 0) rfl); (try have hM1 := hS.map (i := 1) rfl); (try have hM2 := hS.map (i := 2) rfl); (try have hM3 := hS.map (i := 3) rfl); (try have hM4 := hS.map (i := 4) rfl)))
     | (apply W.condKF; exact rfl; (focus (exact dec_false q0; done)))
     | (apply WL.lit tOk; (iterate 6 exact rfl); (first | exact rfl | kernel_rfl | (simp [Instr.fill, catCells]; done)); exact rfl; intro gb w' hb hge hc hx)
     | (apply WL.append1 (z := ((andV (cto N n ins k).2.2 (litI (cto N n ins k).1 x.1) (litI (cto N n ins k).1 x.2)).1)) tOk encI_ok; (iterate 10 exact rfl); assumption; (exact extA); (first | exact rfl | (focus (simp only [List.length_set]; done)) | (focus (simp; done)) | (focus (simp [*]; done)) | omega | (focus (simp only [List.length_set]; omega))); (first | assumption | (refine Cells.ext ?_ (by assumption); exact extA)); exact rfl; exact rfl; (exact extA); (first | omega | (simp; omega) | (simp at *; omega)); intro a' cap' w' hO hX' hU hF; (first | replace hS := Sep.updRow (i := 0) rfl hU hO hF hS extA (by (first | exact Nat.le_refl _ | exact Below.size extA)) | replace hS := Sep.updRow (i := 1) rfl hU hO hF hS extA (by (first | exact Nat.le_refl _ | exact Below.size extA)) | replace hS := Sep.updRow (i := 2) rfl hU hO hF hS extA (by (first | exact Nat.le_refl _ | exact Below.size extA)) | replace hS := Sep.updRow (i := 3) rfl hU hO hF hS extA (by (first | exact Nat.le_refl _ | exact Below.size extA)) | replace hS := Sep.updRow (i := 4) rfl hU hO hF hS extA (by (first | exact Nat.le_refl _ | exact Below.size extA)) | replace hS := Sep.updRow (i := 5) rfl hU hO hF hS extA (by (first | exact Nat.le_refl _ | exact Below.size extA))); (try simp only [List.set_cons_zero, List.set_cons_succ] at hS); (try have hR0 := hS.row (i := 0) rfl); (try have hR1 := hS.row (i := 1) rfl); (try have hR2 := hS.row (i := 2) rfl); (try have hR3 := hS.row (i := 3) rfl); (try have hR4 := hS.row (i := 4) rfl); (try have hC0 := hS.cell (i := 0) rfl); (try have hD0 := (cells_heap hC0).1); (try have hE0 := (cells_heap hC0).2.1); (try have hF0 := (cells_heap hC0).2.2.1); (try have hG0 := (cells_heap hC0).2.2.2.1); (try have hC1 := hS.cell (i := 1) rfl); (try have hD1 := (cells_heap hC1).1); (try have hE1 := (cells_heap hC1).2.1); (try have hF1 := (cells_heap hC1).2.2.1); (try have hG1 := (cells_heap hC1).2.2.2.1); (try have hC2 := hS.cell (i := 2) rfl); (try have hD2 := (cells_heap hC2).1); (try have hE2 := (cells_heap hC2).2.1); (try have hF2 := (cells_heap hC2).2.2.1); (try have hG2 := (cells_heap hC2).2.2.2.1); (try have hC3 := hS.cell (i := 3) rfl); (try have hD3 := (cells_heap hC3).1); (try have hE3 := (cells_heap hC3).2.1); (try have hF3 := (cells_heap hC3).2.2.1); (try have hG3 := (cells_heap hC3).2.2.2.1); (try have hC4 := hS.cell (i := 4) rfl); (try have hD4 := (cells_heap hC4).1); (try have hE4 := (cells_heap hC4).2.1); (try have hF4 := (cells_heap hC4).2.2.1); (try have hG4 := (cells_heap hC4).2.2.2.1); (try have hM0 := hS.map (i := 0) rfl); (try have hM1 := hS.map (i := 1) rfl); (try have hM2 := hS.map (i := 2) rfl); (try have hM3 := hS.map (i := 3) rfl); (try have hM4 := hS.map (i := 4) rfl))
     | (apply WL.storeB (w0 := w0) tOk; (iterate 4 exact rfl); assumption; (exact extA); (iterate 3 exact rfl); (exact extA); (first | assumption | omega | (focus (apply Nat.le_trans; rotate_left; assumption; exact Below.size extA; done))); intro w' hb hc hX' hU; have hcc := hc; obtain ⟨h1, h2, _⟩ := hc; (first | replace hS := Sep.updCell (i := 0) rfl hU hb hS extA (by (first | exact Nat.le_refl _ | exact Below.size extA)) | replace hS := Sep.updCell (i := 1) rfl hU hb hS extA (by (first | exact Nat.le_refl _ | exact Below.size extA)) | replace hS := Sep.updCell (i := 2) rfl hU hb hS extA (by (first | exact Nat.le_refl _ | exact Below.size extA)) | replace hS := Sep.updCell (i := 3) rfl hU hb hS extA (by (first | exact Nat.le_refl _ | exact Below.size extA))); (try simp only [List.set_cons_zero, List.set_cons_succ] at hS); (try have hR0 := hS.row (i := 0) rfl); (try have hR1 := hS.row (i := 1) rfl); (try have hR2 := hS.row (i := 2) rfl); (try have hR3 := hS.row (i := 3) rfl); (try have hR4 := hS.row (i := 4) rfl); (try have hC0 := hS.cell (i := 0) rfl); (try have hD0 := (cells_heap hC0).1); (try have hE0 := (cells_heap hC0).2.1); (try have hF0 := (cells_heap hC0).2.2.1); (try have hG0 := (cells_heap hC0).2.2.2.1); (try have hC1 := hS.cell (i := 1) rfl); (try have hD1 := (cells_heap hC1).1); (try have hE1 := (cells_heap hC1).2.1); (try have hF1 := (cells_heap hC1).2.2.1); (try have hG1 := (cells_heap hC1).2.2.2.1); (try have hC2 := hS.cell (i := 2) rfl); (try have hD2 := (cells_heap hC2).1); (try have hE2 := (cells_heap hC2).2.1); (try have hF2 := (cells_heap hC2).2.2.1); (try have hG2 := (cells_heap hC2).2.2.2.1); (try have hC3 := hS.cell (i := 3) rfl); (try have hD3 := (cells_heap hC3).1); (try have hE3 := (cells_heap hC3).2.1); (try have hF3 := (cells_heap hC3).2.2.1); (try have hG3 := (cells_heap hC3).2.2.2.1); (try have hC4 := hS.cell (i := 4) rfl); (try have hD4 := (cells_heap hC4).1); (try have hE4 := (cells_heap hC4).2.1); (try have hF4 := (cells_heap hC4).2.2.1); (try have hG4 := (cells_heap hC4).2.2.2.1); (try have hM0 := hS.map (i := 0) rfl); (try have hM1 := hS.map (i := 1) rfl); (try have hM2 := hS.map (i := 2) rfl); (try have hM3 := hS.map (i := 3) rfl); (try have hM4 := hS.map (i := 4) rfl))
     | (show WL _ _ _ _ _ _ _; first | apply WL.nil | (refine WL.au (k := ?_)))
     | (show Z _ _ _ _ _; first | apply Z.then_normal | apply Z.block_normal)
     | (show W _ _ _ _ _ _; first | apply W.seq | apply W.region | apply W.skip)
     | fail)
    exact Z.againO2 a' cap' bi bd ⟨by omega, by assumption, ⟨a8, cap8, by rw [e3, e1]; exact hS⟩, by rw [e2]; exact hib, by rw [e2]; exact hbd⟩ (by repeat' first | exact trivial | (refine And.intro ?_ ?_) | exact rfl | (rw [e1]; exact rfl) | (rw [e2]; exact rfl))
   ·by_cases hki : (cto N n ins k).2.1 < ins.length
    ·obtain ⟨z, hz⟩ := getI ins hki
     have hz' : (ins.drop (cto N n ins k).2.1)[0]? = some z := by rw [List.getElem?_drop]; exact hz
     have hdl : 0 < (ins.drop (cto N n ins k).2.1).length := by rw [List.length_drop]; omega
     have hzh := hh z (List.mem_of_getElem? hz)
     have q0 : ¬ z < 0 := by have := hzh.1; omega
     have e1 : (cto N n ins (k + 1)).1 = (cto N n ins k).1 ++ [z] := by rw [hs, cstep, if_neg hin, if_pos hki, getD_of hz]
     have e2 : (cto N n ins (k + 1)).2.1 = (cto N n ins k).2.1 + 1 := by rw [hs, cstep, if_neg hin, if_pos hki]
     have e3 : (cto N n ins (k + 1)).2.2 = (cto N n ins k).2.2 := by rw [hs, cstep, if_neg hin, if_pos hki]
     have e4 : (ins.drop (cto N n ins k).2.1).drop 1 = ins.drop (cto N n ins (k + 1)).2.1 := by rw [e2, List.drop_drop]
     have e7 : (ins.drop (cto N n ins (k + 1)).2.1).length = (ins.drop (cto N n ins k).2.1).length - Int.toNat 1 := by rw [← e4, List.length_drop]; rfl
     repeat' (first
      | (apply W.condKT; exact rfl; (focus (first | exact dec_true (by omega) | exact dec_false (by omega) | exact dec_false q0; done)))
      | (apply W.condKF; exact rfl; (focus (first | exact dec_true (by omega) | exact dec_false (by omega) | exact dec_false q0; done)))
      | (apply WL.alloc tOk; (iterate 3 exact rfl); intro gb w' hb hge hx; replace hS := Sep.newCell (Sep.ext hS extA) hx hb hge (by (first | exact Nat.le_refl _ | exact Below.size extA)); (try simp only [List.set_cons_zero, List.set_cons_succ] at hS); (try have hR0 := hS.row (i := 0) rfl); (try have hR1 := hS.row (i := 1) rfl); (try have hR2 := hS.row (i := 2) rfl); (try have hR3 := hS.row (i := 3) rfl); (try have hR4 := hS.row (i := 4) rfl); (try have hC0 := hS.cell (i := 0) rfl); (try have hD0 := (cells_heap hC0).1); (try have hE0 := (cells_heap hC0).2.1); (try have hF0 := (cells_heap hC0).2.2.1); (try have hG0 := (cells_heap hC0).2.2.2.1); (try have hC1 := hS.cell (i := 1) rfl); (try have hD1 := (cells_heap hC1).1); (try have hE1 := (cells_heap hC1).2.1); (try have hF1 := (cells_heap hC1).2.2.1); (try have hG1 := (cells_heap hC1).2.2.2.1); (try have hC2 := hS.cell (i := 2) rfl); (try have hD2 := (cells_heap hC2).1); (try have hE2 := (cells_heap hC2).2.1); (try have hF2 := (cells_heap hC2).2.2.1); (try have hG2 := (cells_heap hC2).2.2.2.1); (try have hC3 := hS.cell (i := 3) rfl); (try have hD3 := (cells_heap hC3).1); (try have hE3 := (cells_heap hC3).2.1); (try have hF3 := (cells_heap hC3).2.2.1); (try have hG3 := (cells_heap hC3).2.2.2.1); (try have hC4 := hS.cell (i := 4) rfl); (try have hD4 := (cells_heap hC4).1); (try have hE4 := (cells_heap hC4).2.1); (try have hF4 := (cells_heap hC4).2.2.1); (try have hG4 := (cells_heap hC4).2.2.2.1); (try have hM0 := hS.map (i := 0) rfl); (try have hM1 := hS.map (i := 1) rfl); (try have hM2 := hS.map (i := 2) rfl); (try have hM3 := hS.map (i := 3) rfl); (try have hM4 := hS.map (i := 4) rfl))
      | (apply WL.storeB (w0 := w9) tOk; (iterate 4 exact rfl); assumption; (exact extA); (iterate 3 exact rfl); (exact extA); (first | assumption | omega | (focus (apply Nat.le_trans; rotate_left; assumption; exact Below.size extA; done))); intro w' hb hc hX' hU; have hcc := hc; obtain ⟨h1, h2, _⟩ := hc; (first | replace hS := Sep.updCell (i := 0) rfl hU hb hS extA (by (first | exact Nat.le_refl _ | exact Below.size extA)) | replace hS := Sep.updCell (i := 1) rfl hU hb hS extA (by (first | exact Nat.le_refl _ | exact Below.size extA)) | replace hS := Sep.updCell (i := 2) rfl hU hb hS extA (by (first | exact Nat.le_refl _ | exact Below.size extA)) | replace hS := Sep.updCell (i := 3) rfl hU hb hS extA (by (first | exact Nat.le_refl _ | exact Below.size extA))); (try simp only [List.set_cons_zero, List.set_cons_succ] at hS); (try have hR0 := hS.row (i := 0) rfl); (try have hR1 := hS.row (i := 1) rfl); (try have hR2 := hS.row (i := 2) rfl); (try have hR3 := hS.row (i := 3) rfl); (try have hR4 := hS.row (i := 4) rfl); (try have hC0 := hS.cell (i := 0) rfl); (try have hD0 := (cells_heap hC0).1); (try have hE0 := (cells_heap hC0).2.1); (try have hF0 := (cells_heap hC0).2.2.1); (try have hG0 := (cells_heap hC0).2.2.2.1); (try have hC1 := hS.cell (i := 1) rfl); (try have hD1 := (cells_heap hC1).1); (try have hE1 := (cells_heap hC1).2.1); (try have hF1 := (cells_heap hC1).2.2.1); (try have hG1 := (cells_heap hC1).2.2.2.1); (try have hC2 := hS.cell (i := 2) rfl); (try have hD2 := (cells_heap hC2).1); (try have hE2 := (cells_heap hC2).2.1); (try have hF2 := (cells_heap hC2).2.2.1); (try have hG2 := (cells_heap hC2).2.2.2.1); (try have hC3 := hS.cell (i := 3) rfl); (try have hD3 := (cells_heap hC3).1); (try have hE3 := (cells_heap hC3).2.1); (try have hF3 := (cells_heap hC3).2.2.1); (try have hG3 := (cells_heap hC3).2.2.2.1); (try have hC4 := hS.cell (i := 4) rfl); (try have hD4 := (cells_heap hC4).1); (try have hE4 := (cells_heap hC4).2.1); (try have hF4 := (cells_heap hC4).2.2.1); (try have hG4 := (cells_heap hC4).2.2.2.1); (try have hM0 := hS.map (i := 0) rfl); (try have hM1 := hS.map (i := 1) rfl); (try have hM2 := hS.map (i := 2) rfl); (try have hM3 := hS.map (i := 3) rfl); (try have hM4 := hS.map (i := 4) rfl))
      | (show W _ _ (.region 13 _ _) _ _ _; apply W.regionGX (.fl true 0 (.fl true 1 (.fl true 3 (.fl true 4 (.fl false 2 (.fl true 5 (.fl true 6 .done))))))) [] tMix; kernel_rfl)
      | (apply FL.sliceL0 tOk; (iterate 8 exact rfl); omega)
      | (apply WL.lit tOk; (iterate 6 exact rfl); (first | exact rfl | kernel_rfl | (simp [Instr.fill, catCells]; done)); exact rfl; intro gb w' hb hge hc hx)
      | (show SX _ _ _ _ _ _ _ _ _; first | (apply SX.done; intro w' hx) | (apply SX.fl0; exact rfl) | (apply SX.fl1; exact rfl; (exact extA)))
      | (show FL _ _ _ _ _ _ _ _; first | apply FL.nilX | (apply FL.loadE tOk; (iterate 5 exact rfl); (first | assumption | (focus (apply Ext.cell; rotate_left; assumption; exact extA; done)))) | (apply FL.indexE tOk; (iterate 8 exact rfl); assumption; exact rfl; omega; assumption; intro b off h; have hcc := h; first | (obtain ⟨h1, h2, h3, h4, h5, h6, _⟩ := h) | (obtain ⟨h1, h2, h3, _⟩ := h) | (obtain ⟨h1, h2, _⟩ := h) | (obtain ⟨h1, _⟩ := h)))
      | (show FL _ _ _ _ _ _ _ _; (refine FL.au (k := ?_)))
      | (show WL _ _ _ _ _ _ _; first | apply WL.nil | (refine WL.au (k := ?_)) | (apply WL.index tOk; (iterate 8 exact rfl); assumption; (exact extA); exact rfl; omega; assumption; intro b off h; have hcc := h; first | (obtain ⟨h1, h2, h3, h4, h5, h6, _⟩ := h) | (obtain ⟨h1, h2, h3, _⟩ := h) | (obtain ⟨h1, h2, _⟩ := h) | (obtain ⟨h1, _⟩ := h)))
      | (show Z _ _ _ _ _; first | apply Z.then_normal | apply Z.block_normal)
      | (show W _ _ _ _ _ _; first | apply W.seq | apply W.region | apply W.block | apply W.skip)
      | fail)
     replace hS := Sep.tail hS
     (try simp only [List.set_cons_zero, List.set_cons_succ] at hS); (try have hR0 := hS.row (i := 0) rfl); (try have hR1 := hS.row (i := 1) rfl); (try have hR2 := hS.row (i := 2) rfl); (try have hR3 := hS.row (i := 3) rfl); (try have hR4 := hS.row (i := 4) rfl); (try have hC0 := hS.cell (i := 0) rfl); (try have hD0 := (cells_heap hC0).1); (try have hE0 := (cells_heap hC0).2.1); (try have hF0 := (cells_heap hC0).2.2.1); (try have hG0 := (cells_heap hC0).2.2.2.1); (try have hC1 := hS.cell (i := 1) rfl); (try have hD1 := (cells_heap hC1).1); (try have hE1 := (cells_heap hC1).2.1); (try have hF1 := (cells_heap hC1).2.2.1); (try have hG1 := (cells_heap hC1).2.2.2.1); (try have hC2 := hS.cell (i := 2) rfl); (try have hD2 := (cells_heap hC2).1); (try have hE2 := (cells_heap hC2).2.1); (try have hF2 := (cells_heap hC2).2.2.1); (try have hG2 := (cells_heap hC2).2.2.2.1); (try have hC3 := hS.cell (i := 3) rfl); (try have hD3 := (cells_heap hC3).1); (try have hE3 := (cells_heap hC3).2.1); (try have hF3 := (cells_heap hC3).2.2.1); (try have hG3 := (cells_heap hC3).2.2.2.1); (try have hC4 := hS.cell (i := 4) rfl); (try have hD4 := (cells_heap hC4).1); (try have hE4 := (cells_heap hC4).2.1); (try have hF4 := (cells_heap hC4).2.2.1); (try have hG4 := (cells_heap hC4).2.2.2.1); (try have hM0 := hS.map (i := 0) rfl); (try have hM1 := hS.map (i := 1) rfl); (try have hM2 := hS.map (i := 2) rfl); (try have hM3 := hS.map (i := 3) rfl); (try have hM4 := hS.map (i := 4) rfl)
     have hRd : Keeps w0 gs r rest (fun w' => Row 1 encI w' (subA bi bd 1 1) (ins.drop (cto N n ins (k + 1)).2.1)) := fun w' a' cap' N' h1 h2 => by rw [← e4]; exact Row.dropAt (hib w' a' cap' N' h1 h2) 1 bd hbd
     repeat' (first
      | (apply WL.append1 (z := (z)) tOk encI_ok; (iterate 10 exact rfl); assumption; (exact extA); (first | exact rfl | (focus (simp only [List.length_set]; done)) | (focus (simp; done)) | (focus (simp [*]; done)) | omega | (focus (simp only [List.length_set]; omega))); (first | assumption | (refine Cells.ext ?_ (by assumption); exact extA)); exact rfl; exact rfl; (exact extA); (first | omega | (simp; omega) | (simp at *; omega)); intro a' cap' w' hO hX' hU hF; (first | replace hS := Sep.updRow (i := 0) rfl hU hO hF hS extA (by (first | exact Nat.le_refl _ | exact Below.size extA)) | replace hS := Sep.updRow (i := 1) rfl hU hO hF hS extA (by (first | exact Nat.le_refl _ | exact Below.size extA)) | replace hS := Sep.updRow (i := 2) rfl hU hO hF hS extA (by (first | exact Nat.le_refl _ | exact Below.size extA)) | replace hS := Sep.updRow (i := 3) rfl hU hO hF hS extA (by (first | exact Nat.le_refl _ | exact Below.size extA)) | replace hS := Sep.updRow (i := 4) rfl hU hO hF hS extA (by (first | exact Nat.le_refl _ | exact Below.size extA)) | replace hS := Sep.updRow (i := 5) rfl hU hO hF hS extA (by (first | exact Nat.le_refl _ | exact Below.size extA))); (try simp only [List.set_cons_zero, List.set_cons_succ] at hS); (try have hR0 := hS.row (i := 0) rfl); (try have hR1 := hS.row (i := 1) rfl); (try have hR2 := hS.row (i := 2) rfl); (try have hR3 := hS.row (i := 3) rfl); (try have hR4 := hS.row (i := 4) rfl); (try have hC0 := hS.cell (i := 0) rfl); (try have hD0 := (cells_heap hC0).1); (try have hE0 := (cells_heap hC0).2.1); (try have hF0 := (cells_heap hC0).2.2.1); (try have hG0 := (cells_heap hC0).2.2.2.1); (try have hC1 := hS.cell (i := 1) rfl); (try have hD1 := (cells_heap hC1).1); (try have hE1 := (cells_heap hC1).2.1); (try have hF1 := (cells_heap hC1).2.2.1); (try have hG1 := (cells_heap hC1).2.2.2.1); (try have hC2 := hS.cell (i := 2) rfl); (try have hD2 := (cells_heap hC2).1); (try have hE2 := (cells_heap hC2).2.1); (try have hF2 := (cells_heap hC2).2.2.1); (try have hG2 := (cells_heap hC2).2.2.2.1); (try have hC3 := hS.cell (i := 3) rfl); (try have hD3 := (cells_heap hC3).1); (try have hE3 := (cells_heap hC3).2.1); (try have hF3 := (cells_heap hC3).2.2.1); (try have hG3 := (cells_heap hC3).2.2.2.1); (try have hC4 := hS.cell (i := 4) rfl); (try have hD4 := (cells_heap hC4).1); (try have hE4 := (cells_heap hC4).2.1); (try have hF4 := (cells_heap hC4).2.2.1); (try have hG4 := (cells_heap hC4).2.2.2.1); (try have hM0 := hS.map (i := 0) rfl); (try have hM1 := hS.map (i := 1) rfl); (try have hM2 := hS.map (i := 2) rfl); (try have hM3 := hS.map (i := 3) rfl); (try have hM4 := hS.map (i := 4) rfl))
      | (apply WL.storeB (w0 := w0) tOk; (iterate 4 exact rfl); assumption; (exact extA); (iterate 3 exact rfl); (exact extA); (first | assumption | omega | (focus (apply Nat.le_trans; rotate_left; assumption; exact Below.size extA; done))); intro w' hb hc hX' hU; have hcc := hc; obtain ⟨h1, h2, _⟩ := hc; (first | replace hS := Sep.updCell (i := 0) rfl hU hb hS extA (by (first | exact Nat.le_refl _ | exact Below.size extA)) | replace hS := Sep.updCell (i := 1) rfl hU hb hS extA (by (first | exact Nat.le_refl _ | exact Below.size extA)) | replace hS := Sep.updCell (i := 2) rfl hU hb hS extA (by (first | exact Nat.le_refl _ | exact Below.size extA)) | replace hS := Sep.updCell (i := 3) rfl hU hb hS extA (by (first | exact Nat.le_refl _ | exact Below.size extA))); (try simp only [List.set_cons_zero, List.set_cons_succ] at hS); (try have hR0 := hS.row (i := 0) rfl); (try have hR1 := hS.row (i := 1) rfl); (try have hR2 := hS.row (i := 2) rfl); (try have hR3 := hS.row (i := 3) rfl); (try have hR4 := hS.row (i := 4) rfl); (try have hC0 := hS.cell (i := 0) rfl); (try have hD0 := (cells_heap hC0).1); (try have hE0 := (cells_heap hC0).2.1); (try have hF0 := (cells_heap hC0).2.2.1); (try have hG0 := (cells_heap hC0).2.2.2.1); (try have hC1 := hS.cell (i := 1) rfl); (try have hD1 := (cells_heap hC1).1); (try have hE1 := (cells_heap hC1).2.1); (try have hF1 := (cells_heap hC1).2.2.1); (try have hG1 := (cells_heap hC1).2.2.2.1); (try have hC2 := hS.cell (i := 2) rfl); (try have hD2 := (cells_heap hC2).1); (try have hE2 := (cells_heap hC2).2.1); (try have hF2 := (cells_heap hC2).2.2.1); (try have hG2 := (cells_heap hC2).2.2.2.1); (try have hC3 := hS.cell (i := 3) rfl); (try have hD3 := (cells_heap hC3).1); (try have hE3 := (cells_heap hC3).2.1); (try have hF3 := (cells_heap hC3).2.2.1); (try have hG3 := (cells_heap hC3).2.2.2.1); (try have hC4 := hS.cell (i := 4) rfl); (try have hD4 := (cells_heap hC4).1); (try have hE4 := (cells_heap hC4).2.1); (try have hF4 := (cells_heap hC4).2.2.1); (try have hG4 := (cells_heap hC4).2.2.2.1); (try have hM0 := hS.map (i := 0) rfl); (try have hM1 := hS.map (i := 1) rfl); (try have hM2 := hS.map (i := 2) rfl); (try have hM3 := hS.map (i := 3) rfl); (try have hM4 := hS.map (i := 4) rfl))
      | (show WL _ _ _ _ _ _ _; first | apply WL.nil | (refine WL.au (k := ?_)))
      | (show Z _ _ _ _ _; first | apply Z.then_normal | apply Z.block_normal)
      | (show W _ _ _ _ _ _; apply W.region)
      | fail)
     exact Z.againO2 a' cap' (subA bi bd 1 1) (bd - 1) ⟨by omega, by assumption, ⟨a2, cap2, by rw [e3, e1]; exact hS⟩, hRd, by rw [e7]; show _ ≤ bd - 1; omega⟩ (by repeat' first | exact trivial | (refine And.intro ?_ ?_) | exact rfl | (rw [e1]; exact rfl) | (rw [e7]; exact rfl))
    ·have hd0 : (ins.drop (cto N n ins k).2.1).length = 0 := by rw [List.length_drop]; omega
     have e1 : (cto N n ins (k + 1)).1 = (cto N n ins k).1 ++ [2 * (((cto N n ins k).2.2.length : Int) + 1)] := by rw [hs, cstep, if_neg hin, if_neg hki]
     have e2 : (cto N n ins (k + 1)).2.1 = (cto N n ins k).2.1 + 1 := by rw [hs, cstep, if_neg hin, if_neg hki]
     have e3 : (cto N n ins (k + 1)).2.2 = (cto N n ins k).2.2 ++ [(-1, 0)] := by rw [hs, cstep, if_neg hin, if_neg hki]
     have e4 : ins.drop (cto N n ins (k + 1)).2.1 = ins.drop (cto N n ins k).2.1 := by rw [e2, List.drop_eq_nil_of_le (by omega), List.drop_eq_nil_of_le (by omega)]
     repeat' (first
      | (apply W.condKT; exact rfl; (focus (first | exact dec_true (by omega) | exact dec_false (by omega); done)))
      | (apply W.condKF; exact rfl; (focus (first | exact dec_true (by omega) | exact dec_false (by omega); done)))
      | (apply WL.alloc tOk; (iterate 3 exact rfl); intro gb w' hb hge hx; replace hS := Sep.newCell (Sep.ext hS extA) hx hb hge (by (first | exact Nat.le_refl _ | exact Below.size extA)); (try simp only [List.set_cons_zero, List.set_cons_succ] at hS); (try have hR0 := hS.row (i := 0) rfl); (try have hR1 := hS.row (i := 1) rfl); (try have hR2 := hS.row (i := 2) rfl); (try have hR3 := hS.row (i := 3) rfl); (try have hR4 := hS.row (i := 4) rfl); (try have hC0 := hS.cell (i := 0) rfl); (try have hD0 := (cells_heap hC0).1); (try have hE0 := (cells_heap hC0).2.1); (try have hF0 := (cells_heap hC0).2.2.1); (try have hG0 := (cells_heap hC0).2.2.2.1); (try have hC1 := hS.cell (i := 1) rfl); (try have hD1 := (cells_heap hC1).1); (try have hE1 := (cells_heap hC1).2.1); (try have hF1 := (cells_heap hC1).2.2.1); (try have hG1 := (cells_heap hC1).2.2.2.1); (try have hC2 := hS.cell (i := 2) rfl); (try have hD2 := (cells_heap hC2).1); (try have hE2 := (cells_heap hC2).2.1); (try have hF2 := (cells_heap hC2).2.2.1); (try have hG2 := (cells_heap hC2).2.2.2.1); (try have hC3 := hS.cell (i := 3) rfl); (try have hD3 := (cells_heap hC3).1); (try have hE3 := (cells_heap hC3).2.1); (try have hF3 := (cells_heap hC3).2.2.1); (try have hG3 := (cells_heap hC3).2.2.2.1); (try have hC4 := hS.cell (i := 4) rfl); (try have hD4 := (cells_heap hC4).1); (try have hE4 := (cells_heap hC4).2.1); (try have hF4 := (cells_heap hC4).2.2.1); (try have hG4 := (cells_heap hC4).2.2.2.1); (try have hM0 := hS.map (i := 0) rfl); (try have hM1 := hS.map (i := 1) rfl); (try have hM2 := hS.map (i := 2) rfl); (try have hM3 := hS.map (i := 3) rfl); (try have hM4 := hS.map (i := 4) rfl))
      | (apply WL.storeB (w0 := w0) tOk; (iterate 4 exact rfl); assumption; (exact extA); (iterate 3 exact rfl); (exact extA); (first | assumption | omega | (focus (apply Nat.le_trans; rotate_left; assumption; exact Below.size extA; done))); intro w' hb hc hX' hU; have hcc := hc; obtain ⟨h1, h2, _⟩ := hc; (first | replace hS := Sep.updCell (i := 0) rfl hU hb hS extA (by (first | exact Nat.le_refl _ | exact Below.size extA)) | replace hS := Sep.updCell (i := 1) rfl hU hb hS extA (by (first | exact Nat.le_refl _ | exact Below.size extA)) | replace hS := Sep.updCell (i := 2) rfl hU hb hS extA (by (first | exact Nat.le_refl _ | exact Below.size extA)) | replace hS := Sep.updCell (i := 3) rfl hU hb hS extA (by (first | exact Nat.le_refl _ | exact Below.size extA))); (try simp only [List.set_cons_zero, List.set_cons_succ] at hS); (try have hR0 := hS.row (i := 0) rfl); (try have hR1 := hS.row (i := 1) rfl); (try have hR2 := hS.row (i := 2) rfl); (try have hR3 := hS.row (i := 3) rfl); (try have hR4 := hS.row (i := 4) rfl); (try have hC0 := hS.cell (i := 0) rfl); (try have hD0 := (cells_heap hC0).1); (try have hE0 := (cells_heap hC0).2.1); (try have hF0 := (cells_heap hC0).2.2.1); (try have hG0 := (cells_heap hC0).2.2.2.1); (try have hC1 := hS.cell (i := 1) rfl); (try have hD1 := (cells_heap hC1).1); (try have hE1 := (cells_heap hC1).2.1); (try have hF1 := (cells_heap hC1).2.2.1); (try have hG1 := (cells_heap hC1).2.2.2.1); (try have hC2 := hS.cell (i := 2) rfl); (try have hD2 := (cells_heap hC2).1); (try have hE2 := (cells_heap hC2).2.1); (try have hF2 := (cells_heap hC2).2.2.1); (try have hG2 := (cells_heap hC2).2.2.2.1); (try have hC3 := hS.cell (i := 3) rfl); (try have hD3 := (cells_heap hC3).1); (try have hE3 := (cells_heap hC3).2.1); (try have hF3 := (cells_heap hC3).2.2.1); (try have hG3 := (cells_heap hC3).2.2.2.1); (try have hC4 := hS.cell (i := 4) rfl); (try have hD4 := (cells_heap hC4).1); (try have hE4 := (cells_heap hC4).2.1); (try have hF4 := (cells_heap hC4).2.2.1); (try have hG4 := (cells_heap hC4).2.2.2.1); (try have hM0 := hS.map (i := 0) rfl); (try have hM1 := hS.map (i := 1) rfl); (try have hM2 := hS.map (i := 2) rfl); (try have hM3 := hS.map (i := 3) rfl); (try have hM4 := hS.map (i := 4) rfl))
      | (((show WL _ _ _ (⟨_, .call ⟨.value (.func 90), _, _⟩, _, _, _, _⟩ :: _) _ _ _); have hS8 : Lt.Sep w0.heap.size _ (stN w0.heap.size gs a2 cap2 r (cto N n ins k).2.2 ++ (pcell g7 #[.slice la (cto N n ins k).1.length lc] 22 :: prow 1 encI 3 w0.heap.size la lc (cto N n ins k).1 :: rest)) := Sep.tail hS; apply WL.call; (iterate 4 exact rfl); exact aig_InputV gs r _ _ (cto N n ins k).2.2 (pcell g7 #[.slice la (cto N n ins k).1.length lc] 22 :: prow 1 encI 3 w0.heap.size la lc (cto N n ins k).1 :: rest) _ w0 extA hS8 (by omega); rintro v' w8 ⟨hX8, a8, cap8, rfl, hS⟩; (try simp only [List.set_cons_zero, List.set_cons_succ] at hS); (try have hR0 := hS.row (i := 0) rfl); (try have hR1 := hS.row (i := 1) rfl); (try have hR2 := hS.row (i := 2) rfl); (try have hR3 := hS.row (i := 3) rfl); (try have hR4 := hS.row (i := 4) rfl); (try have hC0 := hS.cell (i := 0) rfl); (try have hD0 := (cells_heap hC0).1); (try have hE0 := (cells_heap hC0).2.1); (try have hF0 := (cells_heap hC0).2.2.1); (try have hG0 := (cells_heap hC0).2.2.2.1); (try have hC1 := hS.cell (i := 1) rfl); (try have hD1 := (cells_heap hC1).1); (try have hE1 := (cells_heap hC1).2.1); (try have hF1 := (cells_heap hC1).2.2.1); (try have hG1 := (cells_heap hC1).2.2.2.1); (try have hC2 := hS.cell (i := 2) rfl); (try have hD2 := (cells_heap hC2).1); (try have hE2 := (cells_heap hC2).2.1); (try have hF2 := (cells_heap hC2).2.2.1); (try have hG2 := (cells_heap hC2).2.2.2.1); (try have hC3 := hS.cell (i := 3) rfl); (try have hD3 := (cells_heap hC3).1); (try have hE3 := (cells_heap hC3).2.1); (try have hF3 := (cells_heap hC3).2.2.1); (try have hG3 := (cells_heap hC3).2.2.2.1); (try have hC4 := hS.cell (i := 4) rfl); (try have hD4 := (cells_heap hC4).1); (try have hE4 := (cells_heap hC4).2.1); (try have hF4 := (cells_heap hC4).2.2.1); (try have hG4 := (cells_heap hC4).2.2.2.1); (try have hM0 := hS.map (i := 0) rfl); (try have hM1 := hS.map (i := 1) rfl); (try have hM2 := hS.map (i := 2) rfl); (try have hM3 := hS.map (i := 3) rfl); (try have hM4 := hS.map (i := 4) rfl)))
      | (apply WL.lit tOk; (iterate 6 exact rfl); (first | exact rfl | kernel_rfl | (simp [Instr.fill, catCells]; done)); exact rfl; intro gb w' hb hge hc hx)
      | (apply WL.append1 (z := (2 * (((cto N n ins k).2.2.length : Int) + 1))) tOk encI_ok; (iterate 10 exact rfl); assumption; (exact extA); (first | exact rfl | (focus (simp only [List.length_set]; done)) | (focus (simp; done)) | (focus (simp [*]; done)) | omega | (focus (simp only [List.length_set]; omega))); (first | assumption | (refine Cells.ext ?_ (by assumption); exact extA)); exact rfl; exact rfl; (exact extA); (first | omega | (simp; omega) | (simp at *; omega)); intro a' cap' w' hO hX' hU hF; (first | replace hS := Sep.updRow (i := 0) rfl hU hO hF hS extA (by (first | exact Nat.le_refl _ | exact Below.size extA)) | replace hS := Sep.updRow (i := 1) rfl hU hO hF hS extA (by (first | exact Nat.le_refl _ | exact Below.size extA)) | replace hS := Sep.updRow (i := 2) rfl hU hO hF hS extA (by (first | exact Nat.le_refl _ | exact Below.size extA)) | replace hS := Sep.updRow (i := 3) rfl hU hO hF hS extA (by (first | exact Nat.le_refl _ | exact Below.size extA)) | replace hS := Sep.updRow (i := 4) rfl hU hO hF hS extA (by (first | exact Nat.le_refl _ | exact Below.size extA)) | replace hS := Sep.updRow (i := 5) rfl hU hO hF hS extA (by (first | exact Nat.le_refl _ | exact Below.size extA))); (try simp only [List.set_cons_zero, List.set_cons_succ] at hS); (try have hR0 := hS.row (i := 0) rfl); (try have hR1 := hS.row (i := 1) rfl); (try have hR2 := hS.row (i := 2) rfl); (try have hR3 := hS.row (i := 3) rfl); (try have hR4 := hS.row (i := 4) rfl); (try have hC0 := hS.cell (i := 0) rfl); (try have hD0 := (cells_heap hC0).1); (try have hE0 := (cells_heap hC0).2.1); (try have hF0 := (cells_heap hC0).2.2.1); (try have hG0 := (cells_heap hC0).2.2.2.1); (try have hC1 := hS.cell (i := 1) rfl); (try have hD1 := (cells_heap hC1).1); (try have hE1 := (cells_heap hC1).2.1); (try have hF1 := (cells_heap hC1).2.2.1); (try have hG1 := (cells_heap hC1).2.2.2.1); (try have hC2 := hS.cell (i := 2) rfl); (try have hD2 := (cells_heap hC2).1); (try have hE2 := (cells_heap hC2).2.1); (try have hF2 := (cells_heap hC2).2.2.1); (try have hG2 := (cells_heap hC2).2.2.2.1); (try have hC3 := hS.cell (i := 3) rfl); (try have hD3 := (cells_heap hC3).1); (try have hE3 := (cells_heap hC3).2.1); (try have hF3 := (cells_heap hC3).2.2.1); (try have hG3 := (cells_heap hC3).2.2.2.1); (try have hC4 := hS.cell (i := 4) rfl); (try have hD4 := (cells_heap hC4).1); (try have hE4 := (cells_heap hC4).2.1); (try have hF4 := (cells_heap hC4).2.2.1); (try have hG4 := (cells_heap hC4).2.2.2.1); (try have hM0 := hS.map (i := 0) rfl); (try have hM1 := hS.map (i := 1) rfl); (try have hM2 := hS.map (i := 2) rfl); (try have hM3 := hS.map (i := 3) rfl); (try have hM4 := hS.map (i := 4) rfl))
      | (show WL _ _ _ _ _ _ _; first | apply WL.nil | (refine WL.au (k := ?_)) | (apply WL.index tOk; (iterate 8 exact rfl); assumption; (exact extA); exact rfl; omega; assumption; intro b off h; have hcc := h; first | (obtain ⟨h1, h2, h3, h4, h5, h6, _⟩ := h) | (obtain ⟨h1, h2, h3, _⟩ := h) | (obtain ⟨h1, h2, _⟩ := h) | (obtain ⟨h1, _⟩ := h)))
      | (show Z _ _ _ _ _; first | apply Z.then_normal | apply Z.block_normal)
      | (show W _ _ _ _ _ _; first | apply W.seq | apply W.region | apply W.block | apply W.skip)
      | fail)
     exact Z.againO2 a' cap' bi bd ⟨by omega, by assumption, ⟨a8, cap8, by rw [e3, e1]; exact hS⟩, by rw [e4]; exact hib, by rw [e4]; exact hbd⟩ (by repeat' first | exact trivial | (refine And.intro ?_ ?_) | exact rfl | (rw [e1]; exact rfl) | (rw [e4]; exact rfl))
  ·obtain rfl : k = n.length := by omega
   have hl7 := (cells_heap (hS9.cell (i := 3) rfl)).1
   repeat' (first
    | (apply W.condKF; exact rfl; (focus (exact dec_false (by omega); done)))
    | (show WL _ _ _ _ _ _ _; first | apply WL.nil | (refine WL.au (k := ?_)))
    | (show Z _ _ _ _ _; first | apply Z.then_normal | apply Z.then_exit | apply Z.block_exit)
    | (show W _ _ _ _ _ _; first | apply W.seq | apply W.region | apply W.ret | apply W.exit)
    | fail)
   exact Z.body1 Try.results55 rfl fun m => ⟨hX9.at m, a2, cap2, la, lc, rfl, (Sep.drop3 hS9).ext ((Ext.refl _).at m)⟩
 ·have e : copyV N n ins = ([], N) := by unfold copyV; rw [dec_false hh]; rfl
  rw [e]
  refine Spec.of _ Try.func55 rfl Try.ntmps55 (by kernel_rfl) rfl ?_
  repeat' (first
   | ((show WL _ _ _ (⟨_, .call ⟨.value (.func 111), _, _⟩, _, _, _, _⟩ :: _) _ _ _); apply WL.callP; (iterate 4 exact rfl); exact aig_has _ _ _ _ _ N ins _ _ hC0 RI (by omega); intro w' hx)
   | (apply W.condKT; exact rfl; (focus ((rw [dec_false hh]; rfl); done)))
   | (show WL _ _ _ _ _ _ _; first | apply WL.nil | (refine WL.au (k := ?_)))
   | (show Z _ _ _ _ _; first | apply Z.then_normal | apply Z.then_ret)
   | (show W _ _ _ _ _ _; first | apply W.seq | apply W.region | apply W.ret)
   | fail)
  have hS1 := hS.ext hx
  have hX1 := hX.trans hx
  have hS3 : Lt.Sep w0.heap.size w' (stN w0.heap.size gs a cap r N ++ (prow 1 encI 3 w0.heap.size none 0 [] :: rest)) := Sep.back31 (Sep.newRow hS1 (Ext.refl _) Own.nil (fun k hk => by cases hk) hX1.size)
  exact Z.body1 Try.results55 rfl fun m => ⟨hX1.at m, a, cap, none, 0, rfl, hS3.ext ((Ext.refl _).at m)⟩
end Go.Proofs.Yteidpnpbfagaeaa
namespace Go.Proofs.Yteidpnpbfagaeaa
open Go Go.Lt Go.RowKit
set_option linter.unusedVariables false
set_option linter.unusedSimpArgs false
set_option maxRecDepth 20000

abbrev NA := List (Int × Int) × List Int
noncomputable def cput (s : NA) (l : Int) (x : Int × Int) : NA := (s.1 ++ [x], s.2.set (l / 2).toNat (2 * ((s.1.length : Int) + 1)))
noncomputable def cIn (s : NA) (ls : List Int) : NA := ls.foldl (fun s l => cput s l (-1, 0)) s
abbrev gAt (gs : List G3) (i : Nat) : G3 := gs.getD i (0, 0, 0)
noncomputable def cGate (gs : List G3) (s : NA) (i : Nat) : NA := cput s (gAt gs i).1 (litI s.2 (gAt gs i).2.1, litI s.2 (gAt gs i).2.2)
noncomputable def cGates (gs : List G3) (s : NA) (L : List Nat) : NA := L.foldl (cGate gs) s
def cAt0 (m : Int) : List Int := 0 :: List.replicate m.toNat (-1)
noncomputable def cNet (c : CirT) : NA := cGates c.gates (cIn ([], cAt0 c.max) (c.ins ++ c.lat.map (·.1))) (ordL c.gates)
theorem cIn_snoc (s : NA) (ls : List Int) (l : Int) : cIn s (ls ++ [l]) = cput (cIn s ls) l (-1, 0) := by unfold cIn; rw [List.foldl_append]; rfl
theorem cGates_snoc (gs : List G3) (s : NA) (L : List Nat) (i : Nat) : cGates gs s (L ++ [i]) = cGate gs (cGates gs s L) i := by unfold cGates; rw [List.foldl_append]; rfl

structure PutOk (s : NA) (q : List Int) (m : Nat) : Prop where
 len1 : s.1.length = q.length
 len2 : s.2.length = m + 1
 zero : s.2[0]? = some 0
 has : ∀ (i : Nat) (l : Int), q[i]? = some l → s.2[(l / 2).toNat]? = some (2 * ((i : Int) + 1))
 not : ∀ v : Nat, 1 ≤ v → v ≤ m → (∀ l ∈ q, (l / 2).toNat ≠ v) → s.2[v]? = some (-1)
theorem PutOk.start (m : Nat) : PutOk ([], cAt0 (m : Int)) [] m := by
 refine ⟨rfl, by simp [cAt0], rfl, fun i l h => by simp at h, fun v h1 h2 _ => ?_⟩
 show (0 :: List.replicate (m : Int).toNat (-1 : Int))[v]? = _
 obtain ⟨u, rfl⟩ : ∃ u, v = u + 1 := ⟨v - 1, by omega⟩
 rw [List.getElem?_cons_succ, List.getElem?_replicate, if_pos (by omega)]
theorem PutOk.push {s : NA} {q : List Int} {m : Nat} (h : PutOk s q m) {l : Int} (hl : 2 ≤ l ∧ l % 2 = 0 ∧ l ≤ 2 * (m : Int)) (hq : ∀ y ∈ q, 2 ≤ y ∧ y % 2 = 0) (hn : l ∉ q) (x : Int × Int) : PutOk (cput s l x) (q ++ [l]) m := by
 have hlen := h.len2
 have hs : ∀ y ∈ q, (l / 2).toNat ≠ (y / 2).toNat := fun y hy he => hn (by have := hq y hy; rw [show l = y by omega]; exact hy)
 refine ⟨by simp [cput, h.len1], by simp [cput, h.len2], ?_, fun i y hy => ?_, fun v h1 h2 h3 => ?_⟩
 ·show (s.2.set _ _)[0]? = _
  rw [List.getElem?_set_ne (by omega)]; exact h.zero
 ·show (s.2.set _ _)[(y / 2).toNat]? = _
  by_cases hi : i < q.length
  ·rw [List.getElem?_append_left hi] at hy
   rw [List.getElem?_set_ne (hs y (List.mem_of_getElem? hy))]
   exact h.has i y hy
  ·rw [List.getElem?_append_right (by omega)] at hy
   have h0 : i - q.length = 0 := by have := lt_of_get hy; simpa using this
   obtain rfl : i = q.length := by omega
   simp at hy; subst hy
   rw [List.getElem?_set_self (by omega), h.len1]
 ·show (s.2.set _ _)[v]? = _
  rw [List.getElem?_set_ne (h3 l (by simp))]
  exact h.not v h1 h2 fun y hy => h3 y (by simp [hy])
theorem PutOk.ge {s : NA} {q : List Int} {m : Nat} (h : PutOk s q m) {l : Int} (hl : l / 2 = 0 ∨ ∃ y ∈ q, y / 2 = l / 2) : ∃ z, s.2[(l / 2).toNat]? = some z ∧ 0 ≤ z ∧ z % 2 = 0 ∧ z ≤ 2 * (s.1.length : Int) := by
 rcases hl with hl | ⟨y, hy, he⟩
 ·exact ⟨0, by rw [hl]; exact h.zero, by decide, by decide, by omega⟩
 ·obtain ⟨i, hi⟩ := List.mem_iff_getElem?.1 hy
  have h1 := h.has i y hi
  rw [he] at h1
  have h2 := lt_of_get hi
  have := h.len1
  exact ⟨_, h1, by omega, by omega, by omega⟩
theorem litI_some {l : List Int} {x z : Int} (hz : l[(x / 2).toNat]? = some z) : litI l x = xorI z (x % 2) := by unfold litI; rw [getD_of hz]
theorem cIn_ok {m : Nat} : ∀ (ls : List Int) (s : NA) (q : List Int), PutOk s q m → (∀ y ∈ q, 2 ≤ y ∧ y % 2 = 0) → (∀ l ∈ ls, 2 ≤ l ∧ l % 2 = 0 ∧ l ≤ 2 * (m : Int)) → (q ++ ls).Nodup → GoodNet s.1 → PutOk (cIn s ls) (q ++ ls) m ∧ GoodNet (cIn s ls).1
 | [], s, q, h, _, _, _, hg => by rw [List.append_nil]; exact ⟨h, hg⟩
 | l :: ls, s, q, h, hq, hl, hn, hg => by
  have hl1 := hl l (by simp)
  have hnl : l ∉ q := fun hm => by
   rw [List.nodup_append] at hn
   exact hn.2.2 l hm l (by simp) rfl
  have h1 := h.push hl1 hq hnl (-1, 0)
  have h2 := cIn_ok ls (cput s l (-1, 0)) (q ++ [l]) h1 (fun y hy => by
   rcases List.mem_append.1 hy with hy | hy
   ·exact hq y hy
   ·rw [List.mem_singleton.1 hy]; exact ⟨hl1.1, hl1.2.1⟩) (fun y hy => hl y (by simp [hy])) (by simpa using hn) (fun i x hx => ?_)
  ·have e : q ++ [l] ++ ls = q ++ l :: ls := by simp
   rw [e] at h2
   exact h2
  ·have hx' : (s.1 ++ [((-1, 0) : Int × Int)])[i]? = some x := hx
   by_cases hi : i < s.1.length
   ·rw [List.getElem?_append_left hi] at hx'; exact hg i x hx'
   ·rw [List.getElem?_append_right (by omega)] at hx'
    have h0 : i - s.1.length = 0 := by have := lt_of_get hx'; simpa using this
    rw [h0] at hx'
    simp at hx'; subst hx'
    unfold badNode; simp

noncomputable abbrev CirT.seq (c : CirT) : List Int := c.ins ++ c.lat.map (·.1) ++ (ordL c.gates).map (fun i => (gAt c.gates i).1)
abbrev CirT.inl (c : CirT) : List Int := c.ins ++ c.lat.map (·.1)
theorem gAt_of {gs : List G3} {i : Nat} {g : G3} (h : gs[i]? = some g) : gAt gs i = g := getD_of h
theorem GoodC'.gate {c : CirT} (h : GoodC' c) {i : Nat} {g : G3} (hg : c.gates[i]? = some g) : (2 ≤ g.1 ∧ g.1 % 2 = 0 ∧ g.1 ≤ 2 * c.max) ∧ (0 ≤ g.2.1 ∧ g.2.1 ≤ 2 * c.max + 1) ∧ (0 ≤ g.2.2 ∧ g.2.2 ≤ 2 * c.max + 1) := by
 have hm := List.mem_of_getElem? hg
 refine ⟨h.own _ (List.mem_append_right _ (List.mem_map.2 ⟨g, hm, rfl⟩)), h.used _ (List.mem_append_right _ (List.mem_flatMap.2 ⟨g, hm, by simp⟩)), h.used _ (List.mem_append_right _ (List.mem_flatMap.2 ⟨g, hm, by simp⟩))⟩
theorem used_put {c : CirT} (h : GoodC' c) {l : Int} (hl : l ∈ c.used) {T : List Nat} (hT : ∀ (j : Nat) (x : G3), c.gates[j]? = some x → j ∉ T → x.1 / 2 ≠ l / 2) : l / 2 = 0 ∨ ∃ y ∈ c.inl ++ T.map (fun i => (gAt c.gates i).1), y / 2 = l / 2 := by
 have h0 := h.used l hl
 rcases Int.lt_or_le 1 l with h1 | h1
 ·right
  have h2 := h.has l hl h1
  rcases List.mem_append.1 h2 with h3 | h3
  ·exact ⟨_, List.mem_append_left _ h3, by omega⟩
  ·obtain ⟨g, hg, he⟩ := List.mem_map.1 h3
   obtain ⟨j, hj⟩ := List.mem_iff_getElem?.1 hg
   have hjT : j ∈ T := Classical.byContradiction fun hn => hT j g hj hn (by omega)
   exact ⟨g.1, List.mem_append_right _ (List.mem_map.2 ⟨j, hjT, by rw [gAt_of hj]⟩), by omega⟩
 ·left; omega
theorem inl_once {c : CirT} (h : GoodC' c) : c.inl.Nodup := by
 have := h.once
 rw [List.nodup_append] at this
 exact this.1
theorem gate_new {c : CirT} (h : GoodC' c) {i : Nat} {g : G3} (hg : c.gates[i]? = some g) {T : List Nat} (hT : ∀ j ∈ T, j < c.gates.length) (hi : i ∉ T) : g.1 ∉ c.inl ++ T.map (fun i => (gAt c.gates i).1) := by
 intro hm
 have ho := h.once
 rw [List.nodup_append] at ho
 rcases List.mem_append.1 hm with h1 | h1
 ·exact ho.2.2 _ h1 _ (List.mem_map.2 ⟨g, List.mem_of_getElem? hg, rfl⟩) rfl
 ·obtain ⟨j, hj, he⟩ := List.mem_map.1 h1
  obtain ⟨x, hx⟩ := getI c.gates (hT j hj)
  rw [gAt_of hx] at he
  have hp := List.pairwise_iff_getElem.1 (List.nodup_iff_pairwise_ne.1 ho.2.1)
  have li : i < (c.gates.map (·.1)).length := by rw [List.length_map]; exact lt_of_get hg
  have lj : j < (c.gates.map (·.1)).length := by rw [List.length_map]; exact lt_of_get hx
  have ei : (c.gates.map (·.1))[i] = g.1 := by have := (List.getElem?_eq_some_iff.1 hg).2; simp [this]
  have ej : (c.gates.map (·.1))[j] = x.1 := by have := (List.getElem?_eq_some_iff.1 hx).2; simp [this]
  have hne : i ≠ j := fun e => hi (by rw [e]; exact hj)
  rcases Nat.lt_or_gt_of_ne hne with h2 | h2
  ·exact hp i j li lj h2 (by rw [ei, ej, he])
  ·exact hp j i lj li h2 (by rw [ei, ej, he])
theorem net_to {c : CirT} (h : GoodC' c) : ∀ k, k ≤ (ordL c.gates).length →
  PutOk (cGates c.gates (cIn ([], cAt0 c.max) c.inl) ((ordL c.gates).take k)) (c.inl ++ ((ordL c.gates).take k).map (fun i => (gAt c.gates i).1)) c.max.toNat ∧ GoodNet (cGates c.gates (cIn ([], cAt0 c.max) c.inl) ((ordL c.gates).take k)).1 := by
 have hm : ((c.max.toNat : Nat) : Int) = c.max := by have := h.max; omega
 intro k
 induction k with
 | zero =>
  intro _
  have h1 := cIn_ok (m := c.max.toNat) c.inl ([], cAt0 c.max) [] (by have := PutOk.start c.max.toNat; rwa [hm] at this) (fun y hy => by cases hy) (fun l hl => by rw [hm]; exact h.own l (List.mem_append_left _ hl)) (by rw [List.nil_append]; exact inl_once h) (fun i x hx => by simp at hx)
  simpa [cGates] using h1
 | succ k ih =>
  intro hk
  obtain ⟨i, hi⟩ := getI (ordL c.gates) (show k < _ by omega)
  obtain ⟨h1, h2⟩ := ih (by omega)
  have hO := (ordL_is c.gates).1
  obtain ⟨g, hg, hn, hr⟩ := (hO k i hi).1
  have hgg := h.gate hg
  have hm' := List.mem_of_getElem? hg
  have ua : g.2.1 ∈ c.used := List.mem_append_right _ (List.mem_flatMap.2 ⟨g, hm', by simp⟩)
  have ub : g.2.2 ∈ c.used := List.mem_append_right _ (List.mem_flatMap.2 ⟨g, hm', by simp⟩)
  have pa := h1.ge (used_put h ua fun j x hx hj => (hr j x hx hj).1)
  have pb := h1.ge (used_put h ub fun j x hx hj => (hr j x hx hj).2)
  have hlt : ∀ j ∈ (ordL c.gates).take k, j < c.gates.length := fun j hj => hO.lt j (List.mem_of_mem_take hj)
  rw [take_succ' hi, cGates_snoc, List.map_append, ← List.append_assoc]
  have eg : gAt c.gates i = g := gAt_of hg
  have hsq : ∀ y ∈ c.inl ++ ((ordL c.gates).take k).map (fun i => (gAt c.gates i).1), 2 ≤ y ∧ y % 2 = 0 := fun y hy => by
   have : y ∈ c.own := by
    rcases List.mem_append.1 hy with hy | hy
    ·exact List.mem_append_left _ hy
    ·obtain ⟨j, hj, rfl⟩ := List.mem_map.1 hy
     obtain ⟨x, hx⟩ := getI c.gates (hlt j hj)
     exact List.mem_append_right _ (List.mem_map.2 ⟨x, List.mem_of_getElem? hx, by rw [gAt_of hx]⟩)
   exact ⟨(h.own y this).1, (h.own y this).2.1⟩
  have hp := h1.push (l := g.1) (by rw [hm]; exact hgg.1) hsq (gate_new h hg hlt hn)
  refine ⟨?_, ?_⟩
  ·unfold cGate; rw [List.map_singleton, eg]; exact hp _
  ·unfold cGate; rw [eg]
   intro j x hx
   have hx' : ((cGates c.gates (cIn ([], cAt0 c.max) c.inl) ((ordL c.gates).take k)).1 ++ [_])[j]? = some x := hx
   obtain ⟨za, a1, a2, a3, a4⟩ := pa
   obtain ⟨zb, b1, b2, b3, b4⟩ := pb
   rw [litI_some a1, litI_some b1] at hx'
   by_cases hj : j < (cGates c.gates (cIn ([], cAt0 c.max) c.inl) ((ordL c.gates).take k)).1.length
   ·rw [List.getElem?_append_left hj] at hx'; exact h2 j x hx'
   ·rw [List.getElem?_append_right (by omega)] at hx'
    have h0 : j - (cGates c.gates (cIn ([], cAt0 c.max) c.inl) ((ordL c.gates).take k)).1.length = 0 := by have := lt_of_get hx'; simpa using this
    rw [h0] at hx'
    simp only [List.getElem?_cons_zero, Option.some.injEq] at hx'
    subst hx'
    have ka : 0 ≤ xorI za (g.2.1 % 2) ∧ xorI za (g.2.1 % 2) ≤ za + 1 := by unfold xorI Lt.xor1; split <;> (try split) <;> omega
    have kb : 0 ≤ xorI zb (g.2.2 % 2) ∧ xorI zb (g.2.2 % 2) ≤ zb + 1 := by unfold xorI Lt.xor1; split <;> (try split) <;> omega
    unfold badNode
    dsimp only
    omega
theorem cNet_ok {c : CirT} (h : GoodC' c) : PutOk (cNet c) c.seq c.max.toNat ∧ GoodNet (cNet c).1 := by
 have h1 := net_to h _ (Nat.le_refl _)
 rw [List.take_length] at h1
 exact h1
theorem ord_all {c : CirT} (h : GoodC' c) {i : Nat} (hi : i < c.gates.length) : i ∈ ordL c.gates := by
 refine Classical.byContradiction fun hn => ?_
 have hO := (ordL_is c.gates).1
 have h1 := nodup_le c.gates.length (i :: ordL c.gates) (List.nodup_cons.2 ⟨hn, hO.nodup⟩) (fun j hj => by
  rcases List.mem_cons.1 hj with rfl | hj
  ·exact hi
  ·exact hO.lt j hj)
 have := h.ord
 simp only [List.length_cons] at h1
 omega
theorem seq_all {c : CirT} (h : GoodC' c) {l : Int} (hl : l ∈ c.own) : l ∈ c.seq := by
 rcases List.mem_append.1 hl with h1 | h1
 ·exact List.mem_append_left _ h1
 ·obtain ⟨g, hg, rfl⟩ := List.mem_map.1 h1
  obtain ⟨i, hi⟩ := List.mem_iff_getElem?.1 hg
  exact List.mem_append_right _ (List.mem_map.2 ⟨i, ord_all h (lt_of_get hi), by rw [gAt_of hi]⟩)
end Go.Proofs.Yteidpnpbfagaeaa
namespace Go.Proofs.Yteidpnpbfagaeaa
open Go Go.Lt Go.RowKit
set_option linter.unusedVariables false
set_option linter.unusedSimpArgs false
set_option maxRecDepth 20000

def IsFresh2 {α β : Type} (s : Nat) (enc : α → List Value) (el : TypeId) (t : Nat) (encb : β → List Value) (elb : TypeId) (w : World) (L : List α) (M : List β) (v : Value) (w' : World) : Prop :=
 Ext w w' ∧ ∃ a cap b cb, v = .tuple #[.slice a L.length cap, .slice b M.length cb] ∧ Own s enc el w.heap.size w' a cap L ∧ Own t encb elb w.heap.size w' b cb M

end Go.Proofs.Yteidpnpbfagaeaa
namespace Go.Proofs.Yteidpnpbfagaeaa
open Go Go.Lt Go.RowKit
set_option linter.unusedVariables false
set_option linter.unusedSimpArgs false
set_option maxRecDepth 20000

theorem ref11_lit (a : Option Addr) (cap : Nat) (A : List Int) (l z : Int) (w : World) (R : Row 1 encI w a A) (h0 : 0 ≤ l) (hl : l ≤ 4294967296) (hz : A[(l / 2).toNat]? = some z) (hz0 : 0 ≤ z ∧ z ≤ 4294967296) :
  Still Try.prog 117 [.slice a A.length cap, .int .i64 l] w (.int .i64 (litI A l)) := by
 have hlt := lt_of_get hz
 have e0 : litI A l = xorI z (l % 2) := by unfold litI; rw [getD_of hz]
 by_cases h : l % 2 = 1
 ·refine Spec.of _ Try.func117 rfl Try.ntmps117 (by kernel_rfl) rfl ?_
  repeat' (first
   | (apply W.condKT; exact rfl; (focus (exact dec_true h; done)))
   | (show WL _ _ _ _ _ _ _; first | apply WL.nil | (refine WL.au (k := ?_)))
   | (show QL _ _ _ _ _ _ _; first | apply QL.nil | (refine QL.au (k := ?_)) | (apply QL.index tOk; (iterate 8 exact rfl); assumption; (exact extA); exact rfl; omega; assumption; intro b off h; have hcc := h; first | (obtain ⟨h1, h2, h3, h4, h5, h6, _⟩ := h) | (obtain ⟨h1, h2, h3, _⟩ := h) | (obtain ⟨h1, h2, _⟩ := h) | (obtain ⟨h1, _⟩ := h)))
   | (show Z _ _ _ _ _; first | apply Z.then_normal | apply Z.then_ret)
   | (show W _ _ _ _ _ _; first | apply W.seq | apply W.region | apply W.ret | (apply W.regionD tMix; kernel_rfl))
   | fail)
  exact Z.body1 Try.results117 rfl fun m => ⟨by rw [e0, h]; congr 1; unfold xorI Lt.xor1; split <;> (try split) <;> omega, m, rfl⟩
 ·refine Spec.of _ Try.func117 rfl Try.ntmps117 (by kernel_rfl) rfl ?_
  repeat' (first
   | (apply W.condKF; exact rfl; (focus (exact dec_false h; done)))
   | (show WL _ _ _ _ _ _ _; first | apply WL.nil | (refine WL.au (k := ?_)) | (apply WL.index tOk; (iterate 8 exact rfl); assumption; (exact extA); exact rfl; omega; assumption; intro b off h; have hcc := h; first | (obtain ⟨h1, h2, h3, h4, h5, h6, _⟩ := h) | (obtain ⟨h1, h2, h3, _⟩ := h) | (obtain ⟨h1, h2, _⟩ := h) | (obtain ⟨h1, _⟩ := h)))
   | (show Z _ _ _ _ _; apply Z.then_normal)
   | (show W _ _ _ _ _ _; first | apply W.seq | apply W.region | apply W.skip | apply W.ret)
   | fail)
  exact Z.body1 Try.results117 rfl fun m => ⟨by rw [e0]; congr 1; unfold xorI Lt.xor1; split <;> (try split) <;> omega, m, rfl⟩

theorem cIn_len (s : NA) (ls : List Int) : (cIn s ls).1.length = s.1.length + ls.length ∧ (cIn s ls).2.length = s.2.length := by
 induction ls generalizing s with
 | nil => exact ⟨rfl, rfl⟩
 | cons l ls ih =>
  have := ih (cput s l (-1, 0))
  refine ⟨?_, ?_⟩
  ·show (cIn (cput s l (-1, 0)) ls).1.length = _
   rw [this.1]; simp [cput]; omega
  ·show (cIn (cput s l (-1, 0)) ls).2.length = _
   rw [this.2]; simp [cput]
theorem cIn_take (s : NA) {ls : List Int} {k : Nat} {x : Int} (h : ls[k]? = some x) : cIn s (ls.take (k + 1)) = cput (cIn s (ls.take k)) x (-1, 0) := by rw [take_succ' h, cIn_snoc]
theorem at_snoc (k : Nat) : (0 :: List.replicate k (-1 : Int)) ++ [-1] = 0 :: List.replicate (k + 1) (-1) := by rw [List.replicate_succ', List.cons_append]

noncomputable def cS1 (c : CirT) (k : Nat) : NA := cIn ([], cAt0 c.max) (c.ins.take k)
noncomputable def cS2 (c : CirT) (k : Nat) : NA := cIn (cS1 c c.ins.length) ((c.lat.map (·.1)).take k)
noncomputable def cS3 (c : CirT) (k : Nat) : NA := cGates c.gates (cS2 c c.lat.length) ((ordL c.gates).take k)
theorem cS1_0 (c : CirT) : cS1 c 0 = ([], cAt0 c.max) := by unfold cS1; rw [List.take_zero]; rfl
theorem cS1_s {c : CirT} {k : Nat} {x : Int} (h : c.ins[k]? = some x) : cS1 c (k + 1) = cput (cS1 c k) x (-1, 0) := cIn_take _ h
theorem cS1_len (c : CirT) {k : Nat} (h : k ≤ c.ins.length) : (cS1 c k).1.length = k ∧ (cS1 c k).2.length = c.max.toNat + 1 := by
 have := cIn_len ([], cAt0 c.max) (c.ins.take k)
 refine ⟨by unfold cS1; rw [this.1, List.length_take]; simp; omega, by unfold cS1; rw [this.2]; simp [cAt0]⟩
theorem cS2_0 (c : CirT) : cS2 c 0 = cS1 c c.ins.length := by unfold cS2; rw [List.take_zero]; rfl
theorem cS2_s {c : CirT} {k : Nat} {x : T3} (h : c.lat[k]? = some x) : cS2 c (k + 1) = cput (cS2 c k) x.1 (-1, 0) := cIn_take _ (by rw [List.getElem?_map, h]; rfl)
theorem cS2_len (c : CirT) {k : Nat} (h : k ≤ c.lat.length) : (cS2 c k).1.length = c.ins.length + k ∧ (cS2 c k).2.length = c.max.toNat + 1 := by
 have := cIn_len (cS1 c c.ins.length) ((c.lat.map (·.1)).take k)
 have h1 := cS1_len c (Nat.le_refl c.ins.length)
 refine ⟨by unfold cS2; rw [this.1, h1.1, List.length_take, List.length_map]; omega, by unfold cS2; rw [this.2, h1.2]⟩
theorem cS2_all (c : CirT) : cS2 c c.lat.length = cIn ([], cAt0 c.max) c.inl := by
 unfold cS2 cS1
 rw [List.take_length, show c.lat.length = (c.lat.map (·.1)).length from (List.length_map _).symm, List.take_length]
 unfold cIn; rw [← List.foldl_append]
theorem cS3_0 (c : CirT) : cS3 c 0 = cS2 c c.lat.length := by unfold cS3; rw [List.take_zero]; rfl
theorem cS3_s {c : CirT} {k i : Nat} (h : (ordL c.gates)[k]? = some i) : cS3 c (k + 1) = cGate c.gates (cS3 c k) i := by unfold cS3; rw [take_succ' h, cGates_snoc]
theorem cS3_len (c : CirT) {k : Nat} (h : k ≤ (ordL c.gates).length) : (cS3 c k).1.length = c.ins.length + c.lat.length + k ∧ (cS3 c k).2.length = c.max.toNat + 1 := by
 induction k with
 | zero => rw [cS3_0]; exact cS2_len c (Nat.le_refl _)
 | succ k ih =>
  obtain ⟨i, hi⟩ := getI (ordL c.gates) (show k < _ by omega)
  have := ih (by omega)
  rw [cS3_s hi]
  refine ⟨?_, ?_⟩
  ·show (_ ++ [_]).length = _
   rw [List.length_append, this.1, List.length_singleton]; omega
  ·show (List.set _ _ _).length = _
   rw [List.length_set, this.2]
theorem cS3_all (c : CirT) : cS3 c (ordL c.gates).length = cNet c := by unfold cS3 cNet; rw [List.take_length, cS2_all]
theorem cS3_get {c : CirT} (h : GoodC' c) {k i : Nat} (hi : (ordL c.gates)[k]? = some i) : ∃ g za zb, c.gates[i]? = some g ∧ (cS3 c k).2[(g.2.1 / 2).toNat]? = some za ∧ (cS3 c k).2[(g.2.2 / 2).toNat]? = some zb ∧ (0 ≤ za ∧ za ≤ 2 * ((cS3 c k).1.length : Int)) ∧ (0 ≤ zb ∧ zb ≤ 2 * ((cS3 c k).1.length : Int)) := by
 have hO := (ordL_is c.gates).1
 obtain ⟨g, hg, hn, hr⟩ := (hO k i hi).1
 have h1 := (net_to h k (Nat.le_of_lt (lt_of_get hi))).1
 have e : cGates c.gates (cIn ([], cAt0 c.max) c.inl) ((ordL c.gates).take k) = cS3 c k := by unfold cS3; rw [cS2_all]
 rw [e] at h1
 have hm' := List.mem_of_getElem? hg
 have ua : g.2.1 ∈ c.used := List.mem_append_right _ (List.mem_flatMap.2 ⟨g, hm', by simp⟩)
 have ub : g.2.2 ∈ c.used := List.mem_append_right _ (List.mem_flatMap.2 ⟨g, hm', by simp⟩)
 obtain ⟨za, a1, a2, _, a3⟩ := h1.ge (used_put h ua fun j x hx hj => (hr j x hx hj).1)
 obtain ⟨zb, b1, b2, _, b3⟩ := h1.ge (used_put h ub fun j x hx hj => (hr j x hx hj).2)
 exact ⟨g, za, zb, hg, a1, b1, ⟨a2, a3⟩, ⟨b2, b3⟩⟩

set_option maxHeartbeats 32000000 in
theorem ref11_Net (c : Circ) (w : World) (hC : CAt w c) (hg : GoodC' c.t) (hz : SzC c.t 100000) :
  Lt.Spec Try.prog 63 [c.val] w (IsFresh2 2 encN 105 1 encI 3 w (cNet c.t).1 (cNet c.t).2) := by
 have z1 : c.ins.2.2.length ≤ 100000 := hz.1
 have z2 : c.lat.2.2.length ≤ 100000 := hz.2.1
 have z6 : c.gates.2.2.length ≤ 100000 := hz.2.2.2.2.2
 have hm : 0 ≤ c.max ∧ c.max ≤ 16777216 := hg.max
 have hown : ∀ x ∈ c.t.own, 2 ≤ x ∧ x % 2 = 0 ∧ x ≤ 2 * c.max := hg.own
 have hused : ∀ x ∈ c.t.used, 0 ≤ x ∧ x ≤ 2 * c.max + 1 := hg.used
 refine Spec.of _ Try.func63 rfl Try.ntmps63 (by kernel_rfl) rfl ?_
 repeat' (first
  | (apply WL.box; (iterate 3 exact rfl); intro gb w' hb hge hc hx; have hcc := hc; (first | (obtain ⟨h1, h2, h3, _⟩ := hc) | (obtain ⟨h1, h2, _⟩ := hc)); (have hcells := hcc; obtain ⟨y0, y1, y2, y3, y4, y5, y6, _⟩ := hcc; obtain ⟨gc, rfl⟩ : ∃ x, x = gb := ⟨_, rfl⟩; obtain ⟨wc, rfl⟩ : ∃ x, x = w' := ⟨_, rfl⟩; obtain ⟨hxc, rfl⟩ : ∃ x, x = hx := ⟨_, rfl⟩))
  | (apply WL.lit (len := 0) tOk; (iterate 6 exact rfl); (first | exact rfl | kernel_rfl | (simp [Instr.fill, catCells]; done)); exact rfl; intro gb w' hb hge hc hx; have hO0 := Own.of_block0 (enc := encN) (s := 2) hb hge; (have hS1 : Lt.Sep wc.heap.size w' [prow 2 encN 105 wc.heap.size (some ⟨gb, 0, none⟩) 0 []] := Sep.none'.newRow' hx hO0 (Nat.le_refl _); obtain ⟨g0, rfl⟩ : ∃ x, x = gb := ⟨_, rfl⟩; obtain ⟨w0, rfl⟩ : ∃ x, x = w' := ⟨_, rfl⟩; obtain ⟨hx0, rfl⟩ : ∃ x, x = hx := ⟨_, rfl⟩))
  | (apply WL.lit tOk; (iterate 6 exact rfl); (first | exact rfl | kernel_rfl | (simp [Instr.fill, catCells]; done)); exact rfl; intro gb w' hb hge hc hx; have hO := Own.of_block ([(0 : Int)]) encI_ok hb hge rfl; (have hS2 := hS1.newRow' (s := 1) (enc := encI) (el := 3) (cap := 1) (l := [0]) hx hO (Below.size hx0); obtain ⟨g1, rfl⟩ : ∃ x, x = gb := ⟨_, rfl⟩; obtain ⟨w1, rfl⟩ : ∃ x, x = w' := ⟨_, rfl⟩; obtain ⟨hx1, rfl⟩ : ∃ x, x = hx := ⟨_, rfl⟩))
  | (show WL _ _ _ _ _ _ _; first | apply WL.nil | (refine WL.au (k := ?_)))
  | (show Z _ _ _ _ _; apply Z.then_normal)
  | (show W _ _ _ _ _ _; first | apply W.seq | apply W.region | apply W.block)
  | fail)
 have hX1 : Ext w w1 := extA
 have Ri := hC.ins.row.ext hxc
 have Rl := hC.lat.row.ext hxc
 have Rg := hC.gates.row.ext hxc
 refine W.loopO c.max.toNat (fun k d dp w' => k ≤ c.max.toNat ∧ Ext wc w' ∧ Lt.Sep wc.heap.size w' [prow 1 encI 3 wc.heap.size d dp (0 :: List.replicate k (-1 : Int)), prow 2 encN 105 wc.heap.size (some ⟨g0, 0, none⟩) 0 []]) (fun k d dp => [(1, .pointer (some ⟨gc, 0, none⟩)), (4, .slice (some ⟨g0, 0, none⟩) 0 0), (5, .slice d (0 :: List.replicate k (-1 : Int)).length dp), (6, .int .i64 ((k : Int) + 1))]) (some ⟨g1, 0, none⟩) 1 ⟨Nat.zero_le _, extA, hS2⟩ (fun k d dp w' h => h.1) ⟨rfl, rfl, rfl, rfl, trivial⟩ ?_
 rintro k d dp w2 ⟨hk, hX2, hS⟩
 have hlk : (0 :: List.replicate k (-1 : Int)).length = k + 1 := by simp
 have hR0 := hS.row (i := 0) rfl
 have hR1 := hS.row (i := 1) rfl
 by_cases hlt : k < c.max.toNat
 ·repeat' (first
   | (apply W.condKT; exact rfl; (focus (exact dec_true (by omega); done)))
   | (apply WL.lit tOk; (iterate 6 exact rfl); (first | exact rfl | kernel_rfl | (simp [Instr.fill, catCells]; done)); exact rfl; intro gb w' hb hge hc hx)
   | (apply WL.append1 (z := ((-1 : Int))) tOk encI_ok; (iterate 10 exact rfl); assumption; (exact extA); (first | exact rfl | (focus (simp only [List.length_set]; done)) | (focus (simp; done)) | (focus (simp [*]; done)) | omega | (focus (simp only [List.length_set]; omega))); (first | assumption | (refine Cells.ext ?_ (by assumption); exact extA)); exact rfl; exact rfl; (exact extA); (first | omega | (simp; omega) | (simp at *; omega)); intro a' cap' w' hO hX' hU hF; (first | replace hS := Sep.updRow (i := 0) rfl hU hO hF hS extA (by (first | exact Nat.le_refl _ | exact Below.size extA)) | replace hS := Sep.updRow (i := 1) rfl hU hO hF hS extA (by (first | exact Nat.le_refl _ | exact Below.size extA)) | replace hS := Sep.updRow (i := 2) rfl hU hO hF hS extA (by (first | exact Nat.le_refl _ | exact Below.size extA)) | replace hS := Sep.updRow (i := 3) rfl hU hO hF hS extA (by (first | exact Nat.le_refl _ | exact Below.size extA)) | replace hS := Sep.updRow (i := 4) rfl hU hO hF hS extA (by (first | exact Nat.le_refl _ | exact Below.size extA)) | replace hS := Sep.updRow (i := 5) rfl hU hO hF hS extA (by (first | exact Nat.le_refl _ | exact Below.size extA))); (try simp only [List.set_cons_zero, List.set_cons_succ] at hS); (try have hR0 := hS.row (i := 0) rfl); (try have hR1 := hS.row (i := 1) rfl); (try have hR2 := hS.row (i := 2) rfl); (try have hR3 := hS.row (i := 3) rfl); (try have hR4 := hS.row (i := 4) rfl); (try have hC0 := hS.cell (i := 0) rfl); (try have hD0 := (cells_heap hC0).1); (try have hE0 := (cells_heap hC0).2.1); (try have hF0 := (cells_heap hC0).2.2.1); (try have hG0 := (cells_heap hC0).2.2.2.1); (try have hC1 := hS.cell (i := 1) rfl); (try have hD1 := (cells_heap hC1).1); (try have hE1 := (cells_heap hC1).2.1); (try have hF1 := (cells_heap hC1).2.2.1); (try have hG1 := (cells_heap hC1).2.2.2.1); (try have hC2 := hS.cell (i := 2) rfl); (try have hD2 := (cells_heap hC2).1); (try have hE2 := (cells_heap hC2).2.1); (try have hF2 := (cells_heap hC2).2.2.1); (try have hG2 := (cells_heap hC2).2.2.2.1); (try have hC3 := hS.cell (i := 3) rfl); (try have hD3 := (cells_heap hC3).1); (try have hE3 := (cells_heap hC3).2.1); (try have hF3 := (cells_heap hC3).2.2.1); (try have hG3 := (cells_heap hC3).2.2.2.1); (try have hC4 := hS.cell (i := 4) rfl); (try have hD4 := (cells_heap hC4).1); (try have hE4 := (cells_heap hC4).2.1); (try have hF4 := (cells_heap hC4).2.2.1); (try have hG4 := (cells_heap hC4).2.2.2.1); (try have hM0 := hS.map (i := 0) rfl); (try have hM1 := hS.map (i := 1) rfl); (try have hM2 := hS.map (i := 2) rfl); (try have hM3 := hS.map (i := 3) rfl); (try have hM4 := hS.map (i := 4) rfl))
   | (show WL _ _ _ _ _ _ _; first | apply WL.nil | (refine WL.au (k := ?_)))
   | (show Z _ _ _ _ _; first | apply Z.then_normal | apply Z.block_normal)
   | (show W _ _ _ _ _ _; first | apply W.seq | apply W.region | apply W.block | apply W.skip)
   | fail)
  exact Z.againO a' cap' ⟨by omega, extA, by rw [← at_snoc]; exact hS⟩ ⟨rfl, rfl, by rw [← at_snoc]; exact rfl, rfl, trivial⟩
 obtain rfl : k = c.max.toNat := by omega
 repeat' (first
  | (apply W.condKF; exact rfl; (focus (exact dec_false (by omega); done)))
  | (show WL _ _ _ _ _ _ _; first | apply WL.nil | (refine WL.au (k := ?_)))
  | (show Z _ _ _ _ _; first | apply Z.then_normal | apply Z.then_exit | apply Z.block_exit)
  | (show W _ _ _ _ _ _; first | apply W.seq | apply W.region | apply W.block | apply W.exit)
  | fail)
 have hown1 : ∀ x ∈ c.ins.2.2, 2 ≤ x ∧ x % 2 = 0 ∧ x ≤ 2 * c.max := fun x hx => hown x (List.mem_append_left _ (List.mem_append_left _ hx))
 have hown2 : ∀ x ∈ c.lat.2.2, 2 ≤ x.1 ∧ x.1 % 2 = 0 ∧ x.1 ≤ 2 * c.max := fun x hx => hown x.1 (List.mem_append_left _ (List.mem_append_right _ (List.mem_map.2 ⟨x, hx, rfl⟩)))
 have e10 := cS1_0 c.t
 refine W.loopO2 c.ins.2.2.length (fun k a cp d dp w' => k ≤ c.ins.2.2.length ∧ Ext wc w' ∧ Lt.Sep wc.heap.size w' [prow 1 encI 3 wc.heap.size d dp (cS1 c.t k).2, prow 2 encN 105 wc.heap.size a cp (cS1 c.t k).1]) (fun k a cp d dp => [(1, .pointer (some ⟨gc, 0, none⟩)), (4, .slice a (cS1 c.t k).1.length cp), (5, .slice d (cS1 c.t k).2.length dp), (7, .int .i64 k)]) (some ⟨g0, 0, none⟩) 0 d dp ⟨Nat.zero_le _, hX2, by rw [e10]; exact hS⟩ (fun k a cp d dp w' h => h.1) (by rw [e10]; exact ⟨rfl, rfl, rfl, rfl, trivial⟩) ?_
 clear hS hR0 hR1 hX2
 rintro k a cp d dp w2 ⟨hk, hX2, hS⟩
 have hR0 := hS.row (i := 0) rfl
 have hR1 := hS.row (i := 1) rfl
 have hl1 : (cS1 c.t k).1.length = k ∧ (cS1 c.t k).2.length = c.max.toNat + 1 := cS1_len c.t hk
 by_cases hlt : k < c.ins.2.2.length
 ·obtain ⟨x, hgx⟩ := getI c.ins.2.2 hlt
  have hxo := hown1 x (List.mem_of_getElem? hgx)
  have e1 := cS1_s (c := c.t) hgx
  obtain ⟨yv, hgy⟩ := getI (cS1 c.t k).2 (show (x / 2).toNat < _ by omega)
  repeat' (first
   | (apply W.condKT; exact rfl; (focus (exact dec_true (by omega); done)))
   | (apply WL.build tOk; (iterate 7 exact rfl); kernel_rfl)
   | (apply WL.lit tOk; (iterate 6 exact rfl); (first | exact rfl | kernel_rfl | (simp [Instr.fill, catCells]; done)); exact rfl; intro gb w' hb hge hc hx)
   | (apply WL.append1 (z := (((-1 : Int), (0 : Int)))) tOk encN_ok; (iterate 10 exact rfl); assumption; (exact extA); (first | exact rfl | (focus (simp only [List.length_set]; done)) | (focus (simp; done)) | (focus (simp [*]; done)) | omega | (focus (simp only [List.length_set]; omega))); (first | assumption | (refine Cells.ext ?_ (by assumption); exact extA)); exact rfl; exact rfl; (exact extA); (first | omega | (simp; omega) | (simp at *; omega)); intro a' cap' w' hO hX' hU hF; (first | replace hS := Sep.updRow (i := 0) rfl hU hO hF hS extA (by (first | exact Nat.le_refl _ | exact Below.size extA)) | replace hS := Sep.updRow (i := 1) rfl hU hO hF hS extA (by (first | exact Nat.le_refl _ | exact Below.size extA)) | replace hS := Sep.updRow (i := 2) rfl hU hO hF hS extA (by (first | exact Nat.le_refl _ | exact Below.size extA)) | replace hS := Sep.updRow (i := 3) rfl hU hO hF hS extA (by (first | exact Nat.le_refl _ | exact Below.size extA)) | replace hS := Sep.updRow (i := 4) rfl hU hO hF hS extA (by (first | exact Nat.le_refl _ | exact Below.size extA)) | replace hS := Sep.updRow (i := 5) rfl hU hO hF hS extA (by (first | exact Nat.le_refl _ | exact Below.size extA))); (try simp only [List.set_cons_zero, List.set_cons_succ] at hS); (try have hR0 := hS.row (i := 0) rfl); (try have hR1 := hS.row (i := 1) rfl); (try have hR2 := hS.row (i := 2) rfl); (try have hR3 := hS.row (i := 3) rfl); (try have hR4 := hS.row (i := 4) rfl); (try have hC0 := hS.cell (i := 0) rfl); (try have hD0 := (cells_heap hC0).1); (try have hE0 := (cells_heap hC0).2.1); (try have hF0 := (cells_heap hC0).2.2.1); (try have hG0 := (cells_heap hC0).2.2.2.1); (try have hC1 := hS.cell (i := 1) rfl); (try have hD1 := (cells_heap hC1).1); (try have hE1 := (cells_heap hC1).2.1); (try have hF1 := (cells_heap hC1).2.2.1); (try have hG1 := (cells_heap hC1).2.2.2.1); (try have hC2 := hS.cell (i := 2) rfl); (try have hD2 := (cells_heap hC2).1); (try have hE2 := (cells_heap hC2).2.1); (try have hF2 := (cells_heap hC2).2.2.1); (try have hG2 := (cells_heap hC2).2.2.2.1); (try have hC3 := hS.cell (i := 3) rfl); (try have hD3 := (cells_heap hC3).1); (try have hE3 := (cells_heap hC3).2.1); (try have hF3 := (cells_heap hC3).2.2.1); (try have hG3 := (cells_heap hC3).2.2.2.1); (try have hC4 := hS.cell (i := 4) rfl); (try have hD4 := (cells_heap hC4).1); (try have hE4 := (cells_heap hC4).2.1); (try have hF4 := (cells_heap hC4).2.2.1); (try have hG4 := (cells_heap hC4).2.2.2.1); (try have hM0 := hS.map (i := 0) rfl); (try have hM1 := hS.map (i := 1) rfl); (try have hM2 := hS.map (i := 2) rfl); (try have hM3 := hS.map (i := 3) rfl); (try have hM4 := hS.map (i := 4) rfl))
   | (show WL _ _ _ _ _ _ _; first | apply WL.nil | (refine WL.au (k := ?_)) | (apply WL.index tOk; (iterate 8 exact rfl); assumption; (exact extA); exact rfl; omega; assumption; intro b off h; have hcc := h; first | (obtain ⟨h1, h2, h3, h4, h5, h6, _⟩ := h) | (obtain ⟨h1, h2, h3, _⟩ := h) | (obtain ⟨h1, h2, _⟩ := h) | (obtain ⟨h1, _⟩ := h)))
   | (show Z _ _ _ _ _; apply Z.then_normal)
   | (show W _ _ _ _ _ _; first | apply W.seq | apply W.region | apply W.block | apply W.skip)
   | fail)
  have le3 : ((cS1 c.t k).1 ++ [((-1 : Int), (0 : Int))]).length = k + 1 := by rw [List.length_append, hl1.1]; rfl
  have le5 : 2 * (((cS1 c.t k).1 ++ [((-1 : Int), (0 : Int))]).length : Int) = 2 * (((cS1 c.t k).1.length : Int) + 1) := by rw [le3, hl1.1]; rfl
  obtain ⟨a2, rfl⟩ : ∃ x, x = a' := ⟨_, rfl⟩; obtain ⟨cp2, rfl⟩ : ∃ x, x = cap' := ⟨_, rfl⟩
  repeat' (first
   | (apply WL.storeO (z' := (2 * (((cS1 c.t k).1 ++ [((-1 : Int), (0 : Int))]).length : Int))) tOk; (iterate 4 exact rfl); assumption; (exact extA); (iterate 3 exact rfl); exact encI_ok; assumption; exact rfl; (exact extA); intro w' hO hX' hU; (first | replace hS := Sep.updRow (i := 0) rfl hU hO (.inl rfl) hS extA (by (first | exact Nat.le_refl _ | exact Below.size extA)) | replace hS := Sep.updRow (i := 1) rfl hU hO (.inl rfl) hS extA (by (first | exact Nat.le_refl _ | exact Below.size extA)) | replace hS := Sep.updRow (i := 2) rfl hU hO (.inl rfl) hS extA (by (first | exact Nat.le_refl _ | exact Below.size extA)) | replace hS := Sep.updRow (i := 3) rfl hU hO (.inl rfl) hS extA (by (first | exact Nat.le_refl _ | exact Below.size extA)) | replace hS := Sep.updRow (i := 4) rfl hU hO (.inl rfl) hS extA (by (first | exact Nat.le_refl _ | exact Below.size extA)) | replace hS := Sep.updRow (i := 5) rfl hU hO (.inl rfl) hS extA (by (first | exact Nat.le_refl _ | exact Below.size extA))); (try simp only [List.set_cons_zero, List.set_cons_succ] at hS); (try have hR0 := hS.row (i := 0) rfl); (try have hR1 := hS.row (i := 1) rfl); (try have hR2 := hS.row (i := 2) rfl); (try have hR3 := hS.row (i := 3) rfl); (try have hR4 := hS.row (i := 4) rfl); (try have hC0 := hS.cell (i := 0) rfl); (try have hD0 := (cells_heap hC0).1); (try have hE0 := (cells_heap hC0).2.1); (try have hF0 := (cells_heap hC0).2.2.1); (try have hG0 := (cells_heap hC0).2.2.2.1); (try have hC1 := hS.cell (i := 1) rfl); (try have hD1 := (cells_heap hC1).1); (try have hE1 := (cells_heap hC1).2.1); (try have hF1 := (cells_heap hC1).2.2.1); (try have hG1 := (cells_heap hC1).2.2.2.1); (try have hC2 := hS.cell (i := 2) rfl); (try have hD2 := (cells_heap hC2).1); (try have hE2 := (cells_heap hC2).2.1); (try have hF2 := (cells_heap hC2).2.2.1); (try have hG2 := (cells_heap hC2).2.2.2.1); (try have hC3 := hS.cell (i := 3) rfl); (try have hD3 := (cells_heap hC3).1); (try have hE3 := (cells_heap hC3).2.1); (try have hF3 := (cells_heap hC3).2.2.1); (try have hG3 := (cells_heap hC3).2.2.2.1); (try have hC4 := hS.cell (i := 4) rfl); (try have hD4 := (cells_heap hC4).1); (try have hE4 := (cells_heap hC4).2.1); (try have hF4 := (cells_heap hC4).2.2.1); (try have hG4 := (cells_heap hC4).2.2.2.1); (try have hM0 := hS.map (i := 0) rfl); (try have hM1 := hS.map (i := 1) rfl); (try have hM2 := hS.map (i := 2) rfl); (try have hM3 := hS.map (i := 3) rfl); (try have hM4 := hS.map (i := 4) rfl))
   | (apply WL.indexO tOk; (iterate 8 exact rfl); assumption; (exact extA); exact encI_ok; (first | exact rfl | (focus (simp only [List.length_set]; done)) | (focus (simp; done)) | (focus (simp [*]; done)) | omega | (focus (simp only [List.length_set]; omega))); omega; assumption; intro gb ha hc; cases ha; have hcc := hc; first | (obtain ⟨h1, h2, h3, _⟩ := hc) | (obtain ⟨h1, h2, _⟩ := hc) | (obtain ⟨h1, _⟩ := hc))
   | (show WL _ _ _ _ _ _ _; first | apply WL.nil | (refine WL.au (k := ?_)))
   | (show Z _ _ _ _ _; first | apply Z.then_normal | apply Z.block_normal)
   | (show W _ _ _ _ _ _; apply W.region)
   | fail)
  rw [le5] at hS
  exact Z.againO2 a2 cp2 (some ⟨gb, 0, none⟩) dp ⟨by omega, extA, by rw [e1]; exact hS⟩ (by repeat' first | exact trivial | (refine And.intro ?_ ?_) | exact rfl | (rw [e1]; exact rfl) | (rw [e1]; show _ = some (Value.slice _ (List.set _ _ _).length _); rw [List.length_set]; exact rfl))
 obtain rfl : k = c.ins.2.2.length := by omega
 repeat' (first
  | (apply W.condKF; exact rfl; (focus (exact dec_false (by omega); done)))
  | (show WL _ _ _ _ _ _ _; first | apply WL.nil | (refine WL.au (k := ?_)))
  | (show Z _ _ _ _ _; first | apply Z.then_normal | apply Z.then_exit | apply Z.block_exit)
  | (show W _ _ _ _ _ _; first | apply W.seq | apply W.region | apply W.block | apply W.exit)
  | fail)
 have e20 := cS2_0 c.t
 have e20 : cS2 c.t 0 = cS1 c.t c.ins.2.2.length := e20
 refine W.loopO2 c.lat.2.2.length (fun k a cp d dp w' => k ≤ c.lat.2.2.length ∧ Ext wc w' ∧ Lt.Sep wc.heap.size w' [prow 1 encI 3 wc.heap.size d dp (cS2 c.t k).2, prow 2 encN 105 wc.heap.size a cp (cS2 c.t k).1]) (fun k a cp d dp => [(1, .pointer (some ⟨gc, 0, none⟩)), (4, .slice a (cS2 c.t k).1.length cp), (5, .slice d (cS2 c.t k).2.length dp), (8, .int .i64 k)]) a cp d dp ⟨Nat.zero_le _, hX2, by rw [e20]; exact hS⟩ (fun k a cp d dp w' h => h.1) (by rw [e20]; exact ⟨rfl, rfl, rfl, rfl, trivial⟩) ?_
 clear hS hR0 hR1 hX2 hl1 hk
 rintro k a cp d dp w2 ⟨hk, hX2, hS⟩
 have hR0 := hS.row (i := 0) rfl
 have hR1 := hS.row (i := 1) rfl
 have hl1 : (cS2 c.t k).1.length = c.ins.2.2.length + k ∧ (cS2 c.t k).2.length = c.max.toNat + 1 := cS2_len c.t hk
 by_cases hlt : k < c.lat.2.2.length
 ·obtain ⟨x, hgx⟩ := getI c.lat.2.2 hlt
  have hxo := hown2 x (List.mem_of_getElem? hgx)
  have e1 := cS2_s (c := c.t) hgx
  obtain ⟨yv, hgy⟩ := getI (cS2 c.t k).2 (show (x.1 / 2).toNat < _ by omega)
  have le3 : ((cS2 c.t k).1 ++ [((-1 : Int), (0 : Int))]).length = c.ins.2.2.length + k + 1 := by rw [List.length_append, hl1.1]; rfl
  have le5 : 2 * (((cS2 c.t k).1 ++ [((-1 : Int), (0 : Int))]).length : Int) = 2 * (((cS2 c.t k).1.length : Int) + 1) := by rw [le3, hl1.1]; rfl
  repeat' (first
   | (apply W.condKT; exact rfl; (focus (exact dec_true (by omega); done)))
   | (apply WL.build tOk; (iterate 7 exact rfl); kernel_rfl)
   | (apply WL.lit tOk; (iterate 6 exact rfl); (first | exact rfl | kernel_rfl | (simp [Instr.fill, catCells]; done)); exact rfl; intro gb w' hb hge hc hx)
   | (apply WL.append1 (z := (((-1 : Int), (0 : Int)))) tOk encN_ok; (iterate 10 exact rfl); assumption; (exact extA); (first | exact rfl | (focus (simp only [List.length_set]; done)) | (focus (simp; done)) | (focus (simp [*]; done)) | omega | (focus (simp only [List.length_set]; omega))); (first | assumption | (refine Cells.ext ?_ (by assumption); exact extA)); exact rfl; exact rfl; (exact extA); (first | omega | (simp; omega) | (simp at *; omega)); intro a' cap' w' hO hX' hU hF; (first | replace hS := Sep.updRow (i := 0) rfl hU hO hF hS extA (by (first | exact Nat.le_refl _ | exact Below.size extA)) | replace hS := Sep.updRow (i := 1) rfl hU hO hF hS extA (by (first | exact Nat.le_refl _ | exact Below.size extA)) | replace hS := Sep.updRow (i := 2) rfl hU hO hF hS extA (by (first | exact Nat.le_refl _ | exact Below.size extA)) | replace hS := Sep.updRow (i := 3) rfl hU hO hF hS extA (by (first | exact Nat.le_refl _ | exact Below.size extA)) | replace hS := Sep.updRow (i := 4) rfl hU hO hF hS extA (by (first | exact Nat.le_refl _ | exact Below.size extA)) | replace hS := Sep.updRow (i := 5) rfl hU hO hF hS extA (by (first | exact Nat.le_refl _ | exact Below.size extA))); (try simp only [List.set_cons_zero, List.set_cons_succ] at hS); (try have hR0 := hS.row (i := 0) rfl); (try have hR1 := hS.row (i := 1) rfl); (try have hR2 := hS.row (i := 2) rfl); (try have hR3 := hS.row (i := 3) rfl); (try have hR4 := hS.row (i := 4) rfl); (try have hC0 := hS.cell (i := 0) rfl); (try have hD0 := (cells_heap hC0).1); (try have hE0 := (cells_heap hC0).2.1); (try have hF0 := (cells_heap hC0).2.2.1); (try have hG0 := (cells_heap hC0).2.2.2.1); (try have hC1 := hS.cell (i := 1) rfl); (try have hD1 := (cells_heap hC1).1); (try have hE1 := (cells_heap hC1).2.1); (try have hF1 := (cells_heap hC1).2.2.1); (try have hG1 := (cells_heap hC1).2.2.2.1); (try have hC2 := hS.cell (i := 2) rfl); (try have hD2 := (cells_heap hC2).1); (try have hE2 := (cells_heap hC2).2.1); (try have hF2 := (cells_heap hC2).2.2.1); (try have hG2 := (cells_heap hC2).2.2.2.1); (try have hC3 := hS.cell (i := 3) rfl); (try have hD3 := (cells_heap hC3).1); (try have hE3 := (cells_heap hC3).2.1); (try have hF3 := (cells_heap hC3).2.2.1); (try have hG3 := (cells_heap hC3).2.2.2.1); (try have hC4 := hS.cell (i := 4) rfl); (try have hD4 := (cells_heap hC4).1); (try have hE4 := (cells_heap hC4).2.1); (try have hF4 := (cells_heap hC4).2.2.1); (try have hG4 := (cells_heap hC4).2.2.2.1); (try have hM0 := hS.map (i := 0) rfl); (try have hM1 := hS.map (i := 1) rfl); (try have hM2 := hS.map (i := 2) rfl); (try have hM3 := hS.map (i := 3) rfl); (try have hM4 := hS.map (i := 4) rfl))
   | (show WL _ _ _ _ _ _ _; first | apply WL.nil | (refine WL.au (k := ?_)) | (apply WL.index tOk; (iterate 8 exact rfl); assumption; (exact extA); exact rfl; omega; assumption; intro b off h; have hcc := h; first | (obtain ⟨h1, h2, h3, h4, h5, h6, _⟩ := h) | (obtain ⟨h1, h2, h3, _⟩ := h) | (obtain ⟨h1, h2, _⟩ := h) | (obtain ⟨h1, _⟩ := h)))
   | (show Z _ _ _ _ _; apply Z.then_normal)
   | (show W _ _ _ _ _ _; first | apply W.seq | apply W.region | apply W.block | apply W.skip)
   | fail)
  obtain ⟨a2, rfl⟩ : ∃ x, x = a' := ⟨_, rfl⟩; obtain ⟨cp2, rfl⟩ : ∃ x, x = cap' := ⟨_, rfl⟩
  repeat' (first
   | (apply WL.storeO (z' := (2 * (((cS2 c.t k).1 ++ [((-1 : Int), (0 : Int))]).length : Int))) tOk; (iterate 4 exact rfl); assumption; (exact extA); (iterate 3 exact rfl); exact encI_ok; assumption; exact rfl; (exact extA); intro w' hO hX' hU; (first | replace hS := Sep.updRow (i := 0) rfl hU hO (.inl rfl) hS extA (by (first | exact Nat.le_refl _ | exact Below.size extA)) | replace hS := Sep.updRow (i := 1) rfl hU hO (.inl rfl) hS extA (by (first | exact Nat.le_refl _ | exact Below.size extA)) | replace hS := Sep.updRow (i := 2) rfl hU hO (.inl rfl) hS extA (by (first | exact Nat.le_refl _ | exact Below.size extA)) | replace hS := Sep.updRow (i := 3) rfl hU hO (.inl rfl) hS extA (by (first | exact Nat.le_refl _ | exact Below.size extA)) | replace hS := Sep.updRow (i := 4) rfl hU hO (.inl rfl) hS extA (by (first | exact Nat.le_refl _ | exact Below.size extA)) | replace hS := Sep.updRow (i := 5) rfl hU hO (.inl rfl) hS extA (by (first | exact Nat.le_refl _ | exact Below.size extA))); (try simp only [List.set_cons_zero, List.set_cons_succ] at hS); (try have hR0 := hS.row (i := 0) rfl); (try have hR1 := hS.row (i := 1) rfl); (try have hR2 := hS.row (i := 2) rfl); (try have hR3 := hS.row (i := 3) rfl); (try have hR4 := hS.row (i := 4) rfl); (try have hC0 := hS.cell (i := 0) rfl); (try have hD0 := (cells_heap hC0).1); (try have hE0 := (cells_heap hC0).2.1); (try have hF0 := (cells_heap hC0).2.2.1); (try have hG0 := (cells_heap hC0).2.2.2.1); (try have hC1 := hS.cell (i := 1) rfl); (try have hD1 := (cells_heap hC1).1); (try have hE1 := (cells_heap hC1).2.1); (try have hF1 := (cells_heap hC1).2.2.1); (try have hG1 := (cells_heap hC1).2.2.2.1); (try have hC2 := hS.cell (i := 2) rfl); (try have hD2 := (cells_heap hC2).1); (try have hE2 := (cells_heap hC2).2.1); (try have hF2 := (cells_heap hC2).2.2.1); (try have hG2 := (cells_heap hC2).2.2.2.1); (try have hC3 := hS.cell (i := 3) rfl); (try have hD3 := (cells_heap hC3).1); (try have hE3 := (cells_heap hC3).2.1); (try have hF3 := (cells_heap hC3).2.2.1); (try have hG3 := (cells_heap hC3).2.2.2.1); (try have hC4 := hS.cell (i := 4) rfl); (try have hD4 := (cells_heap hC4).1); (try have hE4 := (cells_heap hC4).2.1); (try have hF4 := (cells_heap hC4).2.2.1); (try have hG4 := (cells_heap hC4).2.2.2.1); (try have hM0 := hS.map (i := 0) rfl); (try have hM1 := hS.map (i := 1) rfl); (try have hM2 := hS.map (i := 2) rfl); (try have hM3 := hS.map (i := 3) rfl); (try have hM4 := hS.map (i := 4) rfl))
   | (apply WL.indexO tOk; (iterate 8 exact rfl); assumption; (exact extA); exact encI_ok; (first | exact rfl | (focus (simp only [List.length_set]; done)) | (focus (simp; done)) | (focus (simp [*]; done)) | omega | (focus (simp only [List.length_set]; omega))); omega; assumption; intro gb ha hc; cases ha; have hcc := hc; first | (obtain ⟨h1, h2, h3, _⟩ := hc) | (obtain ⟨h1, h2, _⟩ := hc) | (obtain ⟨h1, _⟩ := hc))
   | (show WL _ _ _ _ _ _ _; first | apply WL.nil | (refine WL.au (k := ?_)))
   | (show Z _ _ _ _ _; first | apply Z.then_normal | apply Z.block_normal)
   | (show W _ _ _ _ _ _; apply W.region)
   | fail)
  rw [le5] at hS
  exact Z.againO2 a2 cp2 (some ⟨gb, 0, none⟩) dp ⟨by omega, extA, by rw [e1]; exact hS⟩ (by repeat' first | exact trivial | (refine And.intro ?_ ?_) | exact rfl | (rw [e1]; exact rfl) | (rw [e1]; show _ = some (Value.slice _ (List.set _ _ _).length _); rw [List.length_set]; exact rfl))
 obtain rfl : k = c.lat.2.2.length := by omega
 have hgm : ∀ g ∈ c.gates.2.2, g.1 ∈ c.t.own ∧ g.2.1 ∈ c.t.used ∧ g.2.2 ∈ c.t.used := fun g hg =>
  ⟨List.mem_append.2 (.inr (List.mem_map.2 ⟨g, hg, rfl⟩)), List.mem_append.2 (.inr (List.mem_flatMap.2 ⟨g, hg, by simp⟩)), List.mem_append.2 (.inr (List.mem_flatMap.2 ⟨g, hg, by simp⟩))⟩
 have hok : gsOk c.gates.2.2 := fun g hg => by
  obtain ⟨r1, r2, r3⟩ := hgm g hg
  have := hown _ r1
  have := hused _ r2
  have := hused _ r3
  omega
 have hcells2 := hcells.ext hX2
 repeat' (first
  | (apply W.condKF; exact rfl; (focus (exact dec_false (by omega); done)))
  | ((show WL _ _ _ (⟨_, .call ⟨.value (.func 103), _, _⟩, _, _, _, _⟩ :: _) _ _ _); apply WL.call; (iterate 4 exact rfl); exact ref11_Order c _ (Rg.ext extA) hok (by omega); rintro v' w' ⟨hx, a', cap', rfl, hO⟩; (obtain ⟨hOd, rfl⟩ : ∃ x, x = hO := ⟨_, rfl⟩; obtain ⟨hxd, rfl⟩ : ∃ x, x = hx := ⟨_, rfl⟩; obtain ⟨wd, rfl⟩ : ∃ x, x = w' := ⟨_, rfl⟩; obtain ⟨ad, rfl⟩ : ∃ x, x = a' := ⟨_, rfl⟩; obtain ⟨cd, rfl⟩ : ∃ x, x = cap' := ⟨_, rfl⟩))
  | (show WL _ _ _ _ _ _ _; first | apply WL.nil | (refine WL.au (k := ?_)))
  | (show Z _ _ _ _ _; first | apply Z.then_normal | apply Z.then_exit | apply Z.block_exit)
  | (show W _ _ _ _ _ _; first | apply W.seq | apply W.region | apply W.block | apply W.exit)
  | fail)
 have hS := hS.newRow' hxd hOd (Below.size hX2)
 have hXd : Ext wc wd := extA
 have e30 : cS3 c.t 0 = cS2 c.t c.lat.2.2.length := cS3_0 c.t
 have hnl : (natI (ordL c.gates.2.2)).length = (ordL c.gates.2.2).length := by simp [natI]
 refine W.loopO2 (ordL c.gates.2.2).length (fun k a cp d dp w' => k ≤ (ordL c.gates.2.2).length ∧ Ext wc w' ∧ Lt.Sep wc.heap.size w' [prow 1 encI 3 wc.heap.size ad cd (natI (ordL c.gates.2.2)), prow 1 encI 3 wc.heap.size d dp (cS3 c.t k).2, prow 2 encN 105 wc.heap.size a cp (cS3 c.t k).1]) (fun k a cp d dp => [(1, .pointer (some ⟨gc, 0, none⟩)), (4, .slice a (cS3 c.t k).1.length cp), (5, .slice d (cS3 c.t k).2.length dp), (9, .slice ad (natI (ordL c.gates.2.2)).length cd), (10, .int .i64 k)]) a cp d dp ⟨Nat.zero_le _, hXd, by rw [e30]; exact hS⟩ (fun k a cp d dp w' h => h.1) (by rw [e30]; exact ⟨rfl, rfl, rfl, rfl, rfl, trivial⟩) ?_
 have hol : (ordL c.gates.2.2).length ≤ c.gates.2.2.length := (ordL_is c.gates.2.2).1.le
 clear hS hR0 hR1 hX2 hl1 hk hXd
 rintro k a cp d dp w2 ⟨hk, hX2, hS⟩
 have hR0 := hS.row (i := 0) rfl
 have hR1 := hS.row (i := 1) rfl
 have hR2 := hS.row (i := 2) rfl
 have RO := Own.row encI_ok hR0
 have hl1 : (cS3 c.t k).1.length = c.ins.2.2.length + c.lat.2.2.length + k ∧ (cS3 c.t k).2.length = c.max.toNat + 1 := cS3_len c.t hk
 by_cases hlt : k < (ordL c.gates.2.2).length
 ·obtain ⟨i, hi⟩ := getI (ordL c.gates.2.2) hlt
  obtain ⟨g, za, zb, hgg, hza, hzb, ka, kb⟩ := cS3_get hg (c := c.t) hi
  have hgg : c.gates.2.2[i]? = some g := hgg
  have hgo := hok g (List.mem_of_getElem? hgg)
  have hgw := hown g.1 (hgm g (List.mem_of_getElem? hgg)).1
  have hgl := lt_of_get hgg
  have hni : (natI (ordL c.gates.2.2))[k]? = some (i : Int) := by rw [natI, List.getElem?_map, hi]; rfl
  obtain ⟨yv, hgy⟩ := getI (cS3 c.t k).2 (show (g.1 / 2).toNat < _ by omega)
  have e1 : cS3 c.t (k + 1) = cput (cS3 c.t k) g.1 (litI (cS3 c.t k).2 g.2.1, litI (cS3 c.t k).2 g.2.2) := by rw [cS3_s (c := c.t) hi]; unfold cGate; rw [gAt_of hgg]
  have le3 : ((cS3 c.t k).1 ++ [(litI (cS3 c.t k).2 g.2.1, litI (cS3 c.t k).2 g.2.2)]).length = c.ins.2.2.length + c.lat.2.2.length + k + 1 := by rw [List.length_append, hl1.1]; rfl
  have le5 : 2 * (((cS3 c.t k).1 ++ [(litI (cS3 c.t k).2 g.2.1, litI (cS3 c.t k).2 g.2.2)]).length : Int) = 2 * (((cS3 c.t k).1.length : Int) + 1) := by rw [le3, hl1.1]; rfl
  have y6w : w2.cell? ⟨gc, 0 + 1 + 1 + 1 + 1 + 1 + 1, none⟩ = some (rowVal c.gates) := (hcells.ext hX2).2.2.2.2.2.2.1
  have Rg2 := Rg.ext hX2
  repeat' (first
   | (apply W.condKT; exact rfl; (focus (exact dec_true (by omega); done)))
   | (show W _ _ (.region 20 _ _) _ _ _; apply W.regionGX (.fl true 0 (.fl true 2 (.fl true 3 (.fl true 4 (.fl false 1 (.fl false 5 (.fl true 6 (.fl false 7 (.br 8 (.br 9 .done .stop) .stop))))))))) [5, 7, 8] tMix; kernel_rfl)
   | (apply WL.alloc tOk; (iterate 3 exact rfl); intro gb w' hb hge hx; replace hS := Sep.newCell (Sep.ext hS extA) hx hb hge (by (first | exact Nat.le_refl _ | exact Below.size extA)); (try simp only [List.set_cons_zero, List.set_cons_succ] at hS); (try have hR0 := hS.row (i := 0) rfl); (try have hR1 := hS.row (i := 1) rfl); (try have hR2 := hS.row (i := 2) rfl); (try have hR3 := hS.row (i := 3) rfl); (try have hR4 := hS.row (i := 4) rfl); (try have hC0 := hS.cell (i := 0) rfl); (try have hD0 := (cells_heap hC0).1); (try have hE0 := (cells_heap hC0).2.1); (try have hF0 := (cells_heap hC0).2.2.1); (try have hG0 := (cells_heap hC0).2.2.2.1); (try have hC1 := hS.cell (i := 1) rfl); (try have hD1 := (cells_heap hC1).1); (try have hE1 := (cells_heap hC1).2.1); (try have hF1 := (cells_heap hC1).2.2.1); (try have hG1 := (cells_heap hC1).2.2.2.1); (try have hC2 := hS.cell (i := 2) rfl); (try have hD2 := (cells_heap hC2).1); (try have hE2 := (cells_heap hC2).2.1); (try have hF2 := (cells_heap hC2).2.2.1); (try have hG2 := (cells_heap hC2).2.2.2.1); (try have hC3 := hS.cell (i := 3) rfl); (try have hD3 := (cells_heap hC3).1); (try have hE3 := (cells_heap hC3).2.1); (try have hF3 := (cells_heap hC3).2.2.1); (try have hG3 := (cells_heap hC3).2.2.2.1); (try have hC4 := hS.cell (i := 4) rfl); (try have hD4 := (cells_heap hC4).1); (try have hE4 := (cells_heap hC4).2.1); (try have hF4 := (cells_heap hC4).2.2.1); (try have hG4 := (cells_heap hC4).2.2.2.1); (try have hM0 := hS.map (i := 0) rfl); (try have hM1 := hS.map (i := 1) rfl); (try have hM2 := hS.map (i := 2) rfl); (try have hM3 := hS.map (i := 3) rfl); (try have hM4 := hS.map (i := 4) rfl))
   | (apply WL.storeB (w0 := wc) tOk; (iterate 4 exact rfl); assumption; (exact extA); (iterate 3 exact rfl); (exact extA); (first | assumption | omega | (focus (apply Nat.le_trans; rotate_left; assumption; exact Below.size extA; done))); intro w' hb hc hX' hU; have hcc := hc; obtain ⟨h1, h2, _⟩ := hc; replace hS := Sep.updCell (i := 0) rfl hU hb hS extA (by (first | exact Nat.le_refl _ | exact Below.size extA)); (try simp only [List.set_cons_zero, List.set_cons_succ] at hS); (try have hR0 := hS.row (i := 0) rfl); (try have hR1 := hS.row (i := 1) rfl); (try have hR2 := hS.row (i := 2) rfl); (try have hR3 := hS.row (i := 3) rfl); (try have hR4 := hS.row (i := 4) rfl); (try have hC0 := hS.cell (i := 0) rfl); (try have hD0 := (cells_heap hC0).1); (try have hE0 := (cells_heap hC0).2.1); (try have hF0 := (cells_heap hC0).2.2.1); (try have hG0 := (cells_heap hC0).2.2.2.1); (try have hC1 := hS.cell (i := 1) rfl); (try have hD1 := (cells_heap hC1).1); (try have hE1 := (cells_heap hC1).2.1); (try have hF1 := (cells_heap hC1).2.2.1); (try have hG1 := (cells_heap hC1).2.2.2.1); (try have hC2 := hS.cell (i := 2) rfl); (try have hD2 := (cells_heap hC2).1); (try have hE2 := (cells_heap hC2).2.1); (try have hF2 := (cells_heap hC2).2.2.1); (try have hG2 := (cells_heap hC2).2.2.2.1); (try have hC3 := hS.cell (i := 3) rfl); (try have hD3 := (cells_heap hC3).1); (try have hE3 := (cells_heap hC3).2.1); (try have hF3 := (cells_heap hC3).2.2.1); (try have hG3 := (cells_heap hC3).2.2.2.1); (try have hC4 := hS.cell (i := 4) rfl); (try have hD4 := (cells_heap hC4).1); (try have hE4 := (cells_heap hC4).2.1); (try have hF4 := (cells_heap hC4).2.2.1); (try have hG4 := (cells_heap hC4).2.2.2.1); (try have hM0 := hS.map (i := 0) rfl); (try have hM1 := hS.map (i := 1) rfl); (try have hM2 := hS.map (i := 2) rfl); (try have hM3 := hS.map (i := 3) rfl); (try have hM4 := hS.map (i := 4) rfl))
   | (show SX _ _ _ _ _ _ _ _ _; first | (apply SX.done; intro w' hx) | (apply SX.fl0; exact rfl) | (apply SX.fl1; exact rfl; (exact extA)) | (apply SX.br1; exact rfl; intro w' hx))
   | (show FL _ _ _ _ _ _ _ _; first | apply FL.nilX | (apply FL.loadE tOk; (iterate 5 exact rfl); (first | assumption | (focus (apply Ext.cell; rotate_left; assumption; exact extA; done)))) | (apply FL.loadAE tOk; (iterate 5 exact rfl); assumption; exact rfl) | (apply FL.indexE tOk; (iterate 8 exact rfl); assumption; exact rfl; omega; assumption; intro b off h; have hcc := h; first | (obtain ⟨h1, h2, h3, h4, h5, h6, _⟩ := h) | (obtain ⟨h1, h2, h3, _⟩ := h) | (obtain ⟨h1, h2, _⟩ := h) | (obtain ⟨h1, _⟩ := h)))
   | (show FL _ _ _ _ _ _ _ _; (refine FL.au (k := ?_)))
   | (show Z _ _ _ _ _; first | (apply Z.sxL; exact rfl) | (apply Z.sxE; (exact extA)))
   | (show WL _ _ _ _ _ _ _; first | apply WL.nil | (refine WL.au (k := ?_)))
   | (show Z _ _ _ _ _; apply Z.then_normal)
   | (show W _ _ _ _ _ _; first | apply W.seq | apply W.region | apply W.block | apply W.skip)
   | fail)
  replace hS := hS.ext hx
  (try simp only [List.set_cons_zero, List.set_cons_succ] at hS); (try have hR0 := hS.row (i := 0) rfl); (try have hR1 := hS.row (i := 1) rfl); (try have hR2 := hS.row (i := 2) rfl); (try have hR3 := hS.row (i := 3) rfl); (try have hR4 := hS.row (i := 4) rfl); (try have hC0 := hS.cell (i := 0) rfl); (try have hD0 := (cells_heap hC0).1); (try have hE0 := (cells_heap hC0).2.1); (try have hF0 := (cells_heap hC0).2.2.1); (try have hG0 := (cells_heap hC0).2.2.2.1); (try have hC1 := hS.cell (i := 1) rfl); (try have hD1 := (cells_heap hC1).1); (try have hE1 := (cells_heap hC1).2.1); (try have hF1 := (cells_heap hC1).2.2.1); (try have hG1 := (cells_heap hC1).2.2.2.1); (try have hC2 := hS.cell (i := 2) rfl); (try have hD2 := (cells_heap hC2).1); (try have hE2 := (cells_heap hC2).2.1); (try have hF2 := (cells_heap hC2).2.2.1); (try have hG2 := (cells_heap hC2).2.2.2.1); (try have hC3 := hS.cell (i := 3) rfl); (try have hD3 := (cells_heap hC3).1); (try have hE3 := (cells_heap hC3).2.1); (try have hF3 := (cells_heap hC3).2.2.1); (try have hG3 := (cells_heap hC3).2.2.2.1); (try have hC4 := hS.cell (i := 4) rfl); (try have hD4 := (cells_heap hC4).1); (try have hE4 := (cells_heap hC4).2.1); (try have hF4 := (cells_heap hC4).2.2.1); (try have hG4 := (cells_heap hC4).2.2.2.1); (try have hM0 := hS.map (i := 0) rfl); (try have hM1 := hS.map (i := 1) rfl); (try have hM2 := hS.map (i := 2) rfl); (try have hM3 := hS.map (i := 3) rfl); (try have hM4 := hS.map (i := 4) rfl)
  obtain ⟨w3, rfl⟩ : ∃ x, x = w' := ⟨_, rfl⟩
  have hX3 : Ext wc w3 := extA
  repeat' (first
   | (apply FL.build tOk; (iterate 7 exact rfl); kernel_rfl)
   | (show W _ _ (.region 21 _ _) _ _ _; apply W.regionGB (.fl true 0 (.fl true 1 (.fl true 2 (.fl true 5 (.fl true 6 (.br 3 (.br 4 (.br 7 (.br 8 (.fl true 9 (.br 10 (.br 11 (.fl true 12 .done) .stop) .stop)) .stop) .stop) (.br 7 (.br 4 (.br 8 (.fl true 9 (.br 10 (.br 11 (.fl true 12 .done) .stop) .stop)) .stop) .stop) .stop)) (.br 7 (.br 3 (.br 4 (.br 8 (.fl true 9 (.br 10 (.br 11 (.fl true 12 .done) .stop) .stop)) .stop) .stop) .stop) .stop))))))) [] (none) tMix; kernel_rfl)
   | ((show WL _ _ _ (⟨_, .call ⟨.value (.func 117), _, _⟩, _, _, _, _⟩ :: _) _ _ _); apply WL.callS; (iterate 4 exact rfl); exact ref11_lit _ _ (cS3 c.t k).2 g.2.1 _ _ ((Own.row encI_ok hR2).ext extA) (by omega) (by omega) hza (by omega))
   | ((show WL _ _ _ (⟨_, .call ⟨.value (.func 117), _, _⟩, _, _, _, _⟩ :: _) _ _ _); apply WL.callS; (iterate 4 exact rfl); exact ref11_lit _ _ (cS3 c.t k).2 g.2.2 _ _ ((Own.row encI_ok hR2).ext extA) (by omega) (by omega) hzb (by omega))
   | (apply WL.lit tOk; (iterate 6 exact rfl); (first | exact rfl | kernel_rfl | (simp [Instr.fill, catCells]; done)); exact rfl; intro gb w' hb hge hc hx)
   | (apply WL.append1 (z := ((litI (cS3 c.t k).2 g.2.1, litI (cS3 c.t k).2 g.2.2))) tOk encN_ok; (iterate 10 exact rfl); assumption; (exact extA); (first | exact rfl | (focus (simp only [List.length_set]; done)) | (focus (simp; done)) | (focus (simp [*]; done)) | omega | (focus (simp only [List.length_set]; omega))); (first | assumption | (refine Cells.ext ?_ (by assumption); exact extA)); exact rfl; exact rfl; (exact extA); (first | omega | (simp; omega) | (simp at *; omega)); intro a' cap' w' hO hX' hU hF; (first | replace hS := Sep.updRow (i := 0) rfl hU hO hF hS extA (by (first | exact Nat.le_refl _ | exact Below.size extA)) | replace hS := Sep.updRow (i := 1) rfl hU hO hF hS extA (by (first | exact Nat.le_refl _ | exact Below.size extA)) | replace hS := Sep.updRow (i := 2) rfl hU hO hF hS extA (by (first | exact Nat.le_refl _ | exact Below.size extA)) | replace hS := Sep.updRow (i := 3) rfl hU hO hF hS extA (by (first | exact Nat.le_refl _ | exact Below.size extA)) | replace hS := Sep.updRow (i := 4) rfl hU hO hF hS extA (by (first | exact Nat.le_refl _ | exact Below.size extA)) | replace hS := Sep.updRow (i := 5) rfl hU hO hF hS extA (by (first | exact Nat.le_refl _ | exact Below.size extA))); (try simp only [List.set_cons_zero, List.set_cons_succ] at hS); (try have hR0 := hS.row (i := 0) rfl); (try have hR1 := hS.row (i := 1) rfl); (try have hR2 := hS.row (i := 2) rfl); (try have hR3 := hS.row (i := 3) rfl); (try have hR4 := hS.row (i := 4) rfl); (try have hC0 := hS.cell (i := 0) rfl); (try have hD0 := (cells_heap hC0).1); (try have hE0 := (cells_heap hC0).2.1); (try have hF0 := (cells_heap hC0).2.2.1); (try have hG0 := (cells_heap hC0).2.2.2.1); (try have hC1 := hS.cell (i := 1) rfl); (try have hD1 := (cells_heap hC1).1); (try have hE1 := (cells_heap hC1).2.1); (try have hF1 := (cells_heap hC1).2.2.1); (try have hG1 := (cells_heap hC1).2.2.2.1); (try have hC2 := hS.cell (i := 2) rfl); (try have hD2 := (cells_heap hC2).1); (try have hE2 := (cells_heap hC2).2.1); (try have hF2 := (cells_heap hC2).2.2.1); (try have hG2 := (cells_heap hC2).2.2.2.1); (try have hC3 := hS.cell (i := 3) rfl); (try have hD3 := (cells_heap hC3).1); (try have hE3 := (cells_heap hC3).2.1); (try have hF3 := (cells_heap hC3).2.2.1); (try have hG3 := (cells_heap hC3).2.2.2.1); (try have hC4 := hS.cell (i := 4) rfl); (try have hD4 := (cells_heap hC4).1); (try have hE4 := (cells_heap hC4).2.1); (try have hF4 := (cells_heap hC4).2.2.1); (try have hG4 := (cells_heap hC4).2.2.2.1); (try have hM0 := hS.map (i := 0) rfl); (try have hM1 := hS.map (i := 1) rfl); (try have hM2 := hS.map (i := 2) rfl); (try have hM3 := hS.map (i := 3) rfl); (try have hM4 := hS.map (i := 4) rfl); (obtain ⟨a2, rfl⟩ : ∃ x, x = a' := ⟨_, rfl⟩; obtain ⟨cp2, rfl⟩ : ∃ x, x = cap' := ⟨_, rfl⟩))
   | (apply WL.storeO (z' := (2 * (((cS3 c.t k).1 ++ [(litI (cS3 c.t k).2 g.2.1, litI (cS3 c.t k).2 g.2.2)]).length : Int))) tOk; (iterate 4 exact rfl); assumption; (exact extA); (iterate 3 exact rfl); exact encI_ok; assumption; exact rfl; (exact extA); intro w' hO hX' hU; (first | replace hS := Sep.updRow (i := 0) rfl hU hO (.inl rfl) hS extA (by (first | exact Nat.le_refl _ | exact Below.size extA)) | replace hS := Sep.updRow (i := 1) rfl hU hO (.inl rfl) hS extA (by (first | exact Nat.le_refl _ | exact Below.size extA)) | replace hS := Sep.updRow (i := 2) rfl hU hO (.inl rfl) hS extA (by (first | exact Nat.le_refl _ | exact Below.size extA)) | replace hS := Sep.updRow (i := 3) rfl hU hO (.inl rfl) hS extA (by (first | exact Nat.le_refl _ | exact Below.size extA)) | replace hS := Sep.updRow (i := 4) rfl hU hO (.inl rfl) hS extA (by (first | exact Nat.le_refl _ | exact Below.size extA)) | replace hS := Sep.updRow (i := 5) rfl hU hO (.inl rfl) hS extA (by (first | exact Nat.le_refl _ | exact Below.size extA))); (try simp only [List.set_cons_zero, List.set_cons_succ] at hS); (try have hR0 := hS.row (i := 0) rfl); (try have hR1 := hS.row (i := 1) rfl); (try have hR2 := hS.row (i := 2) rfl); (try have hR3 := hS.row (i := 3) rfl); (try have hR4 := hS.row (i := 4) rfl); (try have hC0 := hS.cell (i := 0) rfl); (try have hD0 := (cells_heap hC0).1); (try have hE0 := (cells_heap hC0).2.1); (try have hF0 := (cells_heap hC0).2.2.1); (try have hG0 := (cells_heap hC0).2.2.2.1); (try have hC1 := hS.cell (i := 1) rfl); (try have hD1 := (cells_heap hC1).1); (try have hE1 := (cells_heap hC1).2.1); (try have hF1 := (cells_heap hC1).2.2.1); (try have hG1 := (cells_heap hC1).2.2.2.1); (try have hC2 := hS.cell (i := 2) rfl); (try have hD2 := (cells_heap hC2).1); (try have hE2 := (cells_heap hC2).2.1); (try have hF2 := (cells_heap hC2).2.2.1); (try have hG2 := (cells_heap hC2).2.2.2.1); (try have hC3 := hS.cell (i := 3) rfl); (try have hD3 := (cells_heap hC3).1); (try have hE3 := (cells_heap hC3).2.1); (try have hF3 := (cells_heap hC3).2.2.1); (try have hG3 := (cells_heap hC3).2.2.2.1); (try have hC4 := hS.cell (i := 4) rfl); (try have hD4 := (cells_heap hC4).1); (try have hE4 := (cells_heap hC4).2.1); (try have hF4 := (cells_heap hC4).2.2.1); (try have hG4 := (cells_heap hC4).2.2.2.1); (try have hM0 := hS.map (i := 0) rfl); (try have hM1 := hS.map (i := 1) rfl); (try have hM2 := hS.map (i := 2) rfl); (try have hM3 := hS.map (i := 3) rfl); (try have hM4 := hS.map (i := 4) rfl))
   | (apply WL.indexO tOk; (iterate 8 exact rfl); assumption; (exact extA); exact encI_ok; (first | exact rfl | (focus (simp only [List.length_set]; done)) | (focus (simp; done)) | (focus (simp [*]; done)) | omega | (focus (simp only [List.length_set]; omega))); omega; assumption; intro gb ha hc; cases ha; have hcc := hc; first | (obtain ⟨h1, h2, h3, _⟩ := hc) | (obtain ⟨h1, h2, _⟩ := hc) | (obtain ⟨h1, _⟩ := hc))
   | (show WL _ _ _ _ _ _ _; first | apply WL.nil | (refine WL.au (k := ?_)))
   | (show SG _ _ _ _ _ _ _ _ _; first | apply SG.done | (apply SG.fl0; exact rfl) | (apply SG.br1; exact rfl) | (apply SG.br; exact rfl))
   | (show FL _ _ _ _ _ _ _ _; first | apply FL.nilS | (refine FL.au (k := ?_)))
   | (show Z _ _ _ _ _; (apply Z.sgL; exact rfl))
   | (show Z _ _ _ _ _; first | apply Z.then_normal | apply Z.block_normal)
   | (show W _ _ _ _ _ _; apply W.region)
   | fail)
  all_goals
   rw [le5] at hS
   exact Z.againO2 a2 cp2 (some ⟨gb, 0, none⟩) dp ⟨by omega, extA, by rw [e1]; exact hS.drop 1⟩ (by repeat' first | exact trivial | (refine And.intro ?_ ?_) | exact rfl | (rw [e1]; exact rfl) | (rw [e1]; show _ = some (Value.slice _ (List.set _ _ _).length _); rw [List.length_set]; exact rfl))
 obtain rfl : k = (ordL c.gates.2.2).length := by omega
 repeat' (first
  | (apply W.condKF; exact rfl; (focus (exact dec_false (by omega); done)))
  | (show WL _ _ _ _ _ _ _; first | apply WL.nil | (refine WL.au (k := ?_)))
  | (show Z _ _ _ _ _; first | apply Z.then_normal | apply Z.then_exit | apply Z.block_exit)
  | (show W _ _ _ _ _ _; first | apply W.seq | apply W.region | apply W.ret | apply W.exit)
  | fail)
 have e39 : cS3 c.t (ordL c.gates.2.2).length = cNet c.t := cS3_all c.t
 rw [e39] at hR1 hR2
 have hwc := Below.size hxc
 exact Z.body2 Try.results63 rfl rfl fun m => ⟨Ext.at extA m, a, cp, d, dp, by rw [e39], (hR2.base hwc).ext ((Ext.refl _).at m), (hR1.base hwc).ext ((Ext.refl _).at m)⟩
end Go.Proofs.Yteidpnpbfagaeaa
namespace Go.Proofs.Yteidpnpbfagaeaa
open Go Go.Lt Go.RowKit
set_option linter.unusedVariables false
set_option linter.unusedSimpArgs false
set_option maxRecDepth 20000

def brV (l : List Bool) (m : Nat) : List Bool := (List.range m).map fun i => l.getD i false
theorem brV_len (l : List Bool) (m : Nat) : (brV l m).length = m := by simp [brV]
theorem brV_get (l : List Bool) {m i : Nat} (h : i < m) : (brV l m)[i]? = some (l.getD i false) := by
 unfold brV; rw [List.getElem?_map, List.getElem?_range h]; rfl
theorem brV_succ (l : List Bool) (m : Nat) : brV l (m + 1) = brV l m ++ [l.getD m false] := by
 unfold brV; rw [List.range_succ, List.map_append]; rfl
theorem brV_self (l : List Bool) : brV l l.length = l := by
 apply List.ext_getElem?
 intro i
 by_cases h : i < l.length
 ·rw [brV_get l h, List.getD, List.getElem?_eq_getElem h]; rfl
 ·rw [List.getElem?_eq_none (by rw [brV_len]; omega), List.getElem?_eq_none (by omega)]
noncomputable def insV (c : CirT) (s i : List Bool) : List Bool := brV i c.ins.length ++ brV s c.lat.length
noncomputable def stepV (c : CirT) (s i : List Bool) : List Bool := values (cNet c).1 (insV c s i)
noncomputable def litV (c : CirT) (s i : List Bool) (l : Int) : Bool := ofL (stepV c s i) (litI (cNet c).2 l)
noncomputable def nextV (c : CirT) (s i : List Bool) : List Bool := c.lat.map fun x => litV c s i x.2.1
theorem nextV_len (c : CirT) (s i : List Bool) : (nextV c s i).length = c.lat.length := by simp [nextV]
def StartsP (c : CirT) (s : List Bool) : Prop := s.length = c.lat.length ∧ ∀ (k : Nat) x b, c.lat[k]? = some x → s[k]? = some b → ¬ (x.2.2 = 0 ∧ b = true) ∧ ¬ (x.2.2 = 1 ∧ b = false)
def HoldsP (c : CirT) (s i : List Bool) : Prop := ∀ l ∈ c.cons, litV c s i l = true
def BadP (c : CirT) (s i : List Bool) (p : Int) : Prop := 0 ≤ p ∧ ∃ l, c.bads[p.toNat]? = some l ∧ litV c s i l = true
noncomputable def stateV (c : CirT) (s : List Bool) (r : List (List Bool)) : Nat → List Bool
 | 0 => brV s c.lat.length
 | k + 1 => nextV c (stateV c s r k) (r.getD k [])
theorem stateV_len (c : CirT) (s : List Bool) (r : List (List Bool)) : ∀ k, (stateV c s r k).length = c.lat.length
 | 0 => brV_len _ _
 | _ + 1 => nextV_len _ _ _
noncomputable def statesV (c : CirT) (s : List Bool) (r : List (List Bool)) : List (List Bool) := (List.range r.length).map (stateV c s r)
theorem statesV_len (c : CirT) (s : List Bool) (r : List (List Bool)) : (statesV c s r).length = r.length := by simp [statesV]
theorem statesV_get (c : CirT) (s : List Bool) (r : List (List Bool)) {k : Nat} (h : k < r.length) : (statesV c s r)[k]? = some (stateV c s r k) := by
 unfold statesV; rw [List.getElem?_map, List.getElem?_range h]; rfl
theorem net_lit {c : CirT} (h : GoodC' c) {l : Int} (hl : l ∈ c.used) : ∃ z, (cNet c).2[(l / 2).toNat]? = some z ∧ 0 ≤ z ∧ z % 2 = 0 ∧ z ≤ 2 * ((cNet c).1.length : Int) := by
 have h0 := (cNet_ok h).1
 refine h0.ge ?_
 have h1 := h.used l hl
 rcases Int.lt_or_le 1 l with h2 | h2
 ·exact .inr ⟨_, seq_all h (h.has l hl h2), by omega⟩
 ·left; omega
theorem litV_ref {A : List Int} {V : List Bool} {l z : Int} (h1 : A[(l / 2).toNat]? = some z) (h2 : 0 ≤ z) : (ofL V z != decide (l % 2 = 1)) = ofL V (litI A l) := by
 rw [litI_some h1]
 unfold xorI
 by_cases h : l % 2 = 1
 ·rw [if_pos h, ofL_xor1 _ h2, decide_eq_true h]; simp
 ·rw [if_neg h, decide_eq_false h]; simp
theorem used_next {c : CirT} {x : T3} (h : x ∈ c.lat) : x.2.1 ∈ c.used := List.mem_append_left _ (List.mem_append_right _ (List.mem_map.2 ⟨x, h, rfl⟩))
theorem used_bad {c : CirT} {l : Int} (h : l ∈ c.bads) : l ∈ c.used := List.mem_append_left _ (List.mem_append_left _ (List.mem_append_left _ (List.mem_append_right _ h)))
theorem used_con {c : CirT} {l : Int} (h : l ∈ c.cons) : l ∈ c.used := List.mem_append_left _ (List.mem_append_left _ (List.mem_append_right _ h))
theorem net_len {c : CirT} (h : GoodC' c) (hz : SzC c 100000) : (cNet c).1.length ≤ 300000 := by
 rw [(cNet_ok h).1.len1]
 have h2 := (ordL_is c.gates).1.le
 obtain ⟨z1, z2, z3, z4, z5, z6⟩ := hz
 show (c.ins ++ c.lat.map (·.1) ++ (ordL c.gates).map (fun i => (gAt c.gates i).1)).length ≤ _
 simp; omega
end Go.Proofs.Yteidpnpbfagaeaa
namespace Go.Proofs.Yteidpnpbfagaeaa
open Go Go.Lt Go.RowKit
set_option linter.unusedVariables false
set_option linter.unusedSimpArgs false
set_option maxRecDepth 20000

def KnL (c : CirT) (l : Int) : Prop := 0 ≤ l ∧ (1 < l → l - l % 2 ∈ c.own)
theorem knL_used {c : CirT} (h : GoodC' c) {l : Int} (hl : l ∈ c.used) : KnL c l := ⟨(h.used l hl).1, h.has l hl⟩
theorem knL_lit {c : CirT} (h : GoodC' c) {l : Int} (hl : KnL c l) : ∃ z, (cNet c).2[(l / 2).toNat]? = some z ∧ 0 ≤ z ∧ z % 2 = 0 ∧ z ≤ 2 * ((cNet c).1.length : Int) := by
 have h0 := (cNet_ok h).1
 refine h0.ge ?_
 rcases Int.lt_or_le 1 l with h2 | h2
 ·exact .inr ⟨_, seq_all h (hl.2 h2), by omega⟩
 ·left; have := hl.1; omega
theorem knL_max {c : CirT} (h : GoodC' c) {l : Int} (hl : KnL c l) : l ≤ 2 * c.max + 1 := by
 have hm := h.max
 by_cases h1 : 1 < l
 ·have := h.own _ (hl.2 h1); omega
 ·omega
theorem knL_range {c : CirT} (h : GoodC' c) {l : Int} (hl : KnL c l) : 0 ≤ litI (cNet c).2 l ∧ litI (cNet c).2 l ≤ 2 * ((cNet c).1.length : Int) + 1 := by
 obtain ⟨z, h1, h2, h3, h4⟩ := knL_lit h hl
 rw [litI_some h1]
 unfold xorI Lt.xor1
 split <;> (try split) <;> omega
theorem cIn_nodes : ∀ (ls : List Int) (s : NA), (cIn s ls).1 = s.1 ++ ls.map (fun _ => ((-1, 0) : Int × Int))
 | [], s => by simp [cIn]
 | l :: ls, s => by
  have ih := cIn_nodes ls (cput s l (-1, 0))
  show (cIn (cput s l (-1, 0)) ls).1 = _
  rw [ih]
  simp [cput]
theorem net_nodes {c : CirT} (h : GoodC' c) : ∀ k, k ≤ (ordL c.gates).length →
  ∀ (j : Nat) x, (cGates c.gates (cIn ([], cAt0 c.max) c.inl) ((ordL c.gates).take k)).1[j]? = some x → (x.1 < 0 ↔ j < c.inl.length) := by
 intro k
 induction k with
 | zero =>
  intro _ j x hx
  have e : (cGates c.gates (cIn ([], cAt0 c.max) c.inl) ((ordL c.gates).take 0)).1 = c.inl.map (fun _ => ((-1, 0) : Int × Int)) := by
   show (cIn ([], cAt0 c.max) c.inl).1 = _
   rw [cIn_nodes]; rfl
  rw [e, List.getElem?_map] at hx
  cases hl : c.inl[j]? with
  | none => rw [hl] at hx; cases hx
  | some y =>
   rw [hl] at hx
   rw [← Option.some.inj hx]
   exact ⟨fun _ => lt_of_get hl, fun _ => (show (-1 : Int) < 0 by decide)⟩
 | succ k ih =>
  intro hk j x hx
  obtain ⟨i, hi⟩ := getI (ordL c.gates) (show k < _ by omega)
  have ih' := ih (by omega)
  have h1 := (net_to h k (by omega)).1
  have hO := (ordL_is c.gates).1
  obtain ⟨g, hg, hn, hr⟩ := (hO k i hi).1
  have hm' := List.mem_of_getElem? hg
  have ua : g.2.1 ∈ c.used := List.mem_append_right _ (List.mem_flatMap.2 ⟨g, hm', by simp⟩)
  obtain ⟨za, a1, a2, a3, a4⟩ := h1.ge (used_put h ua fun j x hx hj => (hr j x hx hj).1)
  have eg : gAt c.gates i = g := gAt_of hg
  rw [take_succ' hi, cGates_snoc] at hx
  unfold cGate at hx
  rw [eg] at hx
  have hx' : ((cGates c.gates (cIn ([], cAt0 c.max) c.inl) ((ordL c.gates).take k)).1 ++ [_])[j]? = some x := hx
  rw [litI_some a1] at hx'
  have hlen := h1.len1
  rw [List.length_append] at hlen
  by_cases hj : j < (cGates c.gates (cIn ([], cAt0 c.max) c.inl) ((ordL c.gates).take k)).1.length
  ·rw [List.getElem?_append_left hj] at hx'; exact ih' j x hx'
  ·rw [List.getElem?_append_right (by omega)] at hx'
   have h0 : j - (cGates c.gates (cIn ([], cAt0 c.max) c.inl) ((ordL c.gates).take k)).1.length = 0 := by have := lt_of_get hx'; simpa using this
   rw [h0] at hx'
   simp only [List.getElem?_cons_zero, Option.some.injEq] at hx'
   subst hx'
   have ka : 0 ≤ xorI za (g.2.1 % 2) := by unfold xorI Lt.xor1; split <;> (try split) <;> omega
   constructor
   ·intro hh; dsimp only at hh; omega
   ·intro hh; omega
theorem net_in {c : CirT} (h : GoodC' c) {j : Nat} {x : Int × Int} (hx : (cNet c).1[j]? = some x) : x.1 < 0 ↔ j < c.inl.length := by
 have := net_nodes h (ordL c.gates).length (Nat.le_refl _) j x
 rw [List.take_length] at this
 exact this hx
theorem inl_len (c : CirT) : c.inl.length = c.ins.length + c.lat.length := by show (c.ins ++ c.lat.map (·.1)).length = _; simp
theorem net_cnt {c : CirT} (h : GoodC' c) : ∀ k, k ≤ (cNet c).1.length → cnt (cNet c).1 k = min k c.inl.length
 | 0, _ => by simp [cnt]
 | k + 1, hk => by
  obtain ⟨x, hx⟩ := getI (cNet c).1 (show k < _ by omega)
  have ih := net_cnt h k (by omega)
  have hi := net_in h hx
  by_cases hin : x.1 < 0
  ·have := hi.1 hin
   rw [cnt_in hx hin, ih]; omega
  ·have : ¬ k < c.inl.length := fun hh => hin (hi.2 hh)
   rw [cnt_gate hx hin, ih]; omega
def b3 (b : Bool) : Int := if b = true then 1 else 0
def v3 (l : List Bool) : List Int := l.map b3
section
variable {c : CirT} {s i : List Bool} {want : List Int}
end
end Go.Proofs.Yteidpnpbfagaeaa
namespace Go.Proofs.Yteidpnpbfagaeaa
open Go Go.Lt Go.RowKit
set_option linter.unusedVariables false
set_option linter.unusedSimpArgs false
set_option maxRecDepth 20000

structure UnV where
 N : List (Int × Int)
 ins : List (List Int)
 own : List (List Int)
 st : List (List Int)
open Classical in
noncomputable def fstep (free : Bool) (s : List Int × List (Int × Int)) (t : T3) : List Int × List (Int × Int) :=
 if free = true ∨ 1 < t.2.2 then (s.1 ++ [2 * ((s.2.length : Int) + 1)], s.2 ++ [(-1, 0)]) else (s.1 ++ [t.2.2], s.2)
noncomputable def firstTo (c : CirT) (free : Bool) (k : Nat) : List Int × List (Int × Int) := (c.lat.take k).foldl (fstep free) ([], [])
theorem firstTo_succ {c : CirT} {free : Bool} {k : Nat} {t : T3} (h : c.lat[k]? = some t) : firstTo c free (k + 1) = fstep free (firstTo c free k) t := by
 unfold firstTo; rw [take_succ' h, List.foldl_append]; rfl
theorem fstep_in {free : Bool} {s : List Int × List (Int × Int)} {t : T3} (h : free = true ∨ 1 < t.2.2) : fstep free s t = (s.1 ++ [2 * ((s.2.length : Int) + 1)], s.2 ++ [(-1, 0)]) := by unfold fstep; rw [if_pos h]
theorem fstep_no {free : Bool} {s : List Int × List (Int × Int)} {t : T3} (h : ¬ (free = true ∨ 1 < t.2.2)) : fstep free s t = (s.1 ++ [t.2.2], s.2) := by unfold fstep; rw [if_neg h]
theorem firstTo_inv {c : CirT} (hg : GoodC' c) (free : Bool) : ∀ k, k ≤ c.lat.length → (firstTo c free k).1.length = k ∧ (firstTo c free k).2.length ≤ k ∧ (∀ z ∈ (firstTo c free k).1, hasL (firstTo c free k).2 z) ∧ Tidy (firstTo c free k).2 ∧ Grow [] (firstTo c free k).2
 | 0, _ => ⟨rfl, Nat.le_refl _, fun z hz => (by cases hz), Tidy.nil, .refl _⟩
 | k + 1, hk => by
  obtain ⟨t, ht⟩ := getI c.lat (show k < _ by omega)
  obtain ⟨i1, i2, i3, i4, i5⟩ := firstTo_inv hg free k (by omega)
  have hr := hg.res t (List.mem_of_getElem? ht)
  rw [firstTo_succ ht]
  generalize firstTo c free k = s at i1 i2 i3 i4 i5
  by_cases h : free = true ∨ 1 < t.2.2
  ·rw [fstep_in h]
   refine ⟨by simp [i1], by simp; omega, fun z hz => ?_, i4.input, .input i5⟩
   rcases List.mem_append.1 hz with hz | hz
   ·exact hasL_mono (i3 z hz) (by simp)
   ·rw [List.mem_singleton.1 hz]; unfold hasL; simp; omega
  ·rw [fstep_no h]
   refine ⟨by simp [i1], by dsimp only; omega, fun z hz => ?_, i4, i5⟩
   rcases List.mem_append.1 hz with hz | hz
   ·exact i3 z hz
   ·rw [List.mem_singleton.1 hz]
    have h2 : ¬ 1 < t.2.2 := fun hh => h (.inr hh)
    unfold hasL; dsimp only
    rcases hr with hr | hr | hr
    ·omega
    ·omega
    ·have := hg.own t.1 (List.mem_append_left _ (List.mem_append_right _ (List.mem_map.2 ⟨t, List.mem_of_getElem? ht, rfl⟩))); omega
def uinTo (N : List (Int × Int)) : Nat → List Int × List (Int × Int)
 | 0 => ([], N)
 | k + 1 => ((uinTo N k).1 ++ [2 * (((uinTo N k).2.length : Int) + 1)], (uinTo N k).2 ++ [(-1, 0)])
theorem uinTo_inv (N : List (Int × Int)) : ∀ k, (uinTo N k).1.length = k ∧ (uinTo N k).2.length = N.length + k ∧ (∀ z ∈ (uinTo N k).1, hasL (uinTo N k).2 z) ∧ Grow N (uinTo N k).2
 | 0 => ⟨rfl, rfl, fun z hz => (by cases hz), .refl _⟩
 | k + 1 => by
  obtain ⟨i1, i2, i3, i4⟩ := uinTo_inv N k
  refine ⟨by simp [uinTo, i1], by simp [uinTo, i2]; omega, fun z hz => ?_, .input i4⟩
  rcases List.mem_append.1 hz with hz | hz
  ·exact hasL_mono (i3 z hz) (by simp [uinTo])
  ·rw [List.mem_singleton.1 hz]; unfold hasL; simp [uinTo]; omega
def signs (own : List Int) (a : Int) : Int × Int := if 0 ≤ a then (own.getD (a / 2).toNat 0, Lt.xor1 (own.getD (a / 2).toNat 0)) else (-1, -1)
noncomputable def signsL (c : CirT) (own : List Int) : List (Int × Int) := (cNet c).2.map (signs own)
def pickS (p : Int × Int) (l : Int) : Int := if l % 2 = 1 then p.2 else p.1
noncomputable def uLit (c : CirT) (own : List Int) (l : Int) : Int :=
 if 0 ≤ l ∧ l ≤ 2 * c.max + 1 then pickS (signs own ((cNet c).2.getD (l / 2).toNat 0)) l else -1
theorem at_len {c : CirT} (hg : GoodC' c) : ((cNet c).2.length : Int) = c.max + 1 := by
 have h1 := (cNet_ok hg).1.len2
 have := hg.max
 omega
theorem signsL_len (c : CirT) (own : List Int) : (signsL c own).length = (cNet c).2.length := List.length_map _
theorem at_is {c : CirT} (hg : GoodC' c) {v : Nat} {a : Int} (h : (cNet c).2[v]? = some a) : a = -1 ∨ (0 ≤ a ∧ a % 2 = 0 ∧ a ≤ 2 * ((cNet c).1.length : Int)) := by
 have hP := (cNet_ok hg).1
 have hl := hP.len2
 have hv := lt_of_get h
 by_cases h0 : v = 0
 ·subst h0
  rw [hP.zero] at h; cases h; right; omega
 ·by_cases hex : ∃ l ∈ c.seq, (l / 2).toNat = v
  ·obtain ⟨l, hm, he⟩ := hex
   obtain ⟨i, hi⟩ := List.mem_iff_getElem?.1 hm
   have h2 := hP.has i l hi
   rw [he, h] at h2
   cases h2
   have := lt_of_get hi
   have := hP.len1
   right; omega
  ·have h2 := hP.not v (by omega) (by omega) (fun l hm he => hex ⟨l, hm, he⟩)
   rw [h] at h2; cases h2; left; rfl
theorem uLit_known {c : CirT} (hg : GoodC' c) (own : List Int) (h0 : ∀ z ∈ own, 0 ≤ z) (hl : own.length = (cNet c).1.length + 1) {l : Int} (hk : KnL c l) : uLit c own l = litI own (litI (cNet c).2 l) := by
 obtain ⟨z, z1, z2, z3, z4⟩ := knL_lit hg hk
 have hm := knL_max hg hk
 unfold uLit
 rw [if_pos ⟨hk.1, hm⟩, getD_of z1, litI_some z1]
 unfold signs pickS
 rw [if_pos z2]
 have e : xorI z (l % 2) = z + l % 2 := by
  unfold xorI Lt.xor1
  split <;> (try split) <;> omega
 rw [e]
 obtain ⟨y, hy⟩ := getI own (show (z / 2).toNat < own.length by omega)
 have hp : (z + l % 2) % 2 = l % 2 := by omega
 rw [litI_some (x := z + l % 2) (z := y) (by rw [show (z + l % 2) / 2 = z / 2 by omega]; exact hy), getD_of hy, hp]
 unfold xorI
 rfl
theorem uLit_has {c : CirT} (hg : GoodC' c) {N : List (Int × Int)} {own : List Int} (ho : ∀ z ∈ own, hasL N z) (hl : own.length = (cNet c).1.length + 1) {l : Int} (hk : KnL c l) : hasL N (uLit c own l) := by
 rw [uLit_known hg own (fun z hz => (ho z hz).1) hl hk]
 have hr := knL_range hg hk
 exact hasL_litI ho (by omega)
noncomputable def nextU (c : CirT) (own : List Int) : List Int := c.lat.map fun t => uLit c own t.2.1
theorem nextU_len (c : CirT) (own : List Int) : (nextU c own).length = c.lat.length := List.length_map _
def UnV.last (u : UnV) : List Int := u.st.getD (u.st.length - 1) []
noncomputable def cpU (c : CirT) (u : UnV) : List Int × List (Int × Int) := copyV (uinTo u.N c.ins.length).2 (cNet c).1 ((uinTo u.N c.ins.length).1 ++ u.last)
noncomputable def growU (c : CirT) (u : UnV) : UnV := ⟨(cpU c u).2, u.ins ++ [(uinTo u.N c.ins.length).1], u.own ++ [(cpU c u).1], u.st ++ [nextU c (cpU c u).1]⟩
noncomputable def newU (c : CirT) (free : Bool) : UnV := ⟨(firstTo c free c.lat.length).2, [], [], [(firstTo c free c.lat.length).1]⟩
structure UOk (c : CirT) (u : UnV) : Prop where
 li : u.ins.length = u.own.length
 ls : u.st.length = u.own.length + 1
 st : ∀ s ∈ u.st, s.length = c.lat.length ∧ ∀ z ∈ s, hasL u.N z
 own : ∀ o ∈ u.own, o.length = (cNet c).1.length + 1 ∧ ∀ z ∈ o, hasL u.N z
 ins : ∀ s ∈ u.ins, s.length = c.ins.length ∧ ∀ z ∈ s, hasL u.N z
 tidy : Tidy u.N
theorem newU_ok {c : CirT} (hg : GoodC' c) (free : Bool) : UOk c (newU c free) ∧ (newU c free).N.length ≤ c.lat.length := by
 obtain ⟨i1, i2, i3, i4, _⟩ := firstTo_inv hg free c.lat.length (Nat.le_refl _)
 refine ⟨⟨rfl, rfl, fun s hs => ?_, fun o ho => (by cases ho), fun o ho => (by cases ho), i4⟩, i2⟩
 rw [List.mem_singleton.1 hs]; exact ⟨i1, i3⟩
theorem UOk.last {c : CirT} {u : UnV} (h : UOk c u) : u.st[u.st.length - 1]? = some u.last ∧ u.last.length = c.lat.length ∧ ∀ z ∈ u.last, hasL u.N z := by
 have h1 := h.ls
 obtain ⟨s, hs⟩ := getI u.st (show u.st.length - 1 < u.st.length by omega)
 have e : u.last = s := getD_of hs
 rw [e]
 exact ⟨hs, (h.st s (List.mem_of_getElem? hs)).1, (h.st s (List.mem_of_getElem? hs)).2⟩
theorem copyV_yes {N n : List (Int × Int)} {ins : List Int} (hh : ∀ z ∈ ins, hasL N z) : copyV N n ins = ((cto N n ins n.length).1, (cto N n ins n.length).2.2) := by unfold copyV; rw [dec_true hh]; rfl
theorem cpU_ok {c : CirT} (hg : GoodC' c) {u : UnV} (h : UOk c u) : (∀ z ∈ (uinTo u.N c.ins.length).1 ++ u.last, hasL (uinTo u.N c.ins.length).2 z) ∧ (cpU c u).1.length = (cNet c).1.length + 1 ∧ (∀ z ∈ (cpU c u).1, hasL (cpU c u).2 z) ∧ u.N.length ≤ (cpU c u).2.length ∧ (cpU c u).2.length ≤ u.N.length + c.ins.length + (cNet c).1.length ∧ Grow u.N (cpU c u).2 := by
 obtain ⟨i1, i2, i3, i4⟩ := uinTo_inv u.N c.ins.length
 have hh : ∀ z ∈ (uinTo u.N c.ins.length).1 ++ u.last, hasL (uinTo u.N c.ins.length).2 z := fun z hz => by
  rcases List.mem_append.1 hz with hz | hz
  ·exact i3 z hz
  ·exact hasL_mono (h.last.2.2 z hz) (by omega)
 obtain ⟨j1, j2, j3, j4, j5, _⟩ := cto_inv (cNet_ok hg).2 hh (cNet c).1.length (Nat.le_refl _)
 unfold cpU
 rw [copyV_yes hh]
 exact ⟨hh, j1, j2, by dsimp only; omega, by dsimp only; omega, i4.trans j5⟩
theorem growU_ok {c : CirT} (hg : GoodC' c) {u : UnV} (h : UOk c u) : UOk c (growU c u) ∧ u.N.length ≤ (growU c u).N.length ∧ (growU c u).N.length ≤ u.N.length + c.ins.length + (cNet c).1.length ∧ Grow u.N (growU c u).N := by
 obtain ⟨_, j1, j2, j3, j4, j5⟩ := cpU_ok hg h
 obtain ⟨i1, i2, i3, i4⟩ := uinTo_inv u.N c.ins.length
 have hl1 := h.li
 have hl2 := h.ls
 have hgr : Grow (uinTo u.N c.ins.length).2 (cpU c u).2 := by
  have hh := (cpU_ok hg h).1
  unfold cpU; rw [copyV_yes hh]
  exact (cto_inv (cNet_ok hg).2 hh (cNet c).1.length (Nat.le_refl _)).2.2.2.2.1
 refine ⟨⟨by simp [growU, hl1], by simp [growU, hl2], fun s hs => ?_, fun s hs => ?_, fun s hs => ?_, j5.tidy h.tidy⟩, j3, j4, j5⟩
 ·rcases List.mem_append.1 hs with hs | hs
  ·exact ⟨(h.st s hs).1, fun z hz => hasL_mono ((h.st s hs).2 z hz) j3⟩
  ·rw [List.mem_singleton.1 hs]
   refine ⟨nextU_len _ _, fun z hz => ?_⟩
   obtain ⟨t, ht, rfl⟩ := List.mem_map.1 hz
   exact uLit_has hg j2 j1 (knL_used hg (used_next ht))
 ·rcases List.mem_append.1 hs with hs | hs
  ·exact ⟨(h.own s hs).1, fun z hz => hasL_mono ((h.own s hs).2 z hz) j3⟩
  ·rw [List.mem_singleton.1 hs]; exact ⟨j1, j2⟩
 ·rcases List.mem_append.1 hs with hs | hs
  ·exact ⟨(h.ins s hs).1, fun z hz => hasL_mono ((h.ins s hs).2 z hz) j3⟩
  ·rw [List.mem_singleton.1 hs]; exact ⟨i1, fun z hz => hgr.has (i3 z hz)⟩
def pickL (l : List Int) (i : Int) : Int := if 0 ≤ i ∧ i < (l.length : Int) then l.getD i.toNat 0 else -1
def rowU (ls : List (List Int)) (k : Int) : List Int := if 0 ≤ k ∧ k < (ls.length : Int) then ls.getD k.toNat [] else []
def UnV.state (u : UnV) (k i : Int) : Int := pickL (rowU u.st k) i
noncomputable def UnV.lit (c : CirT) (u : UnV) (k l : Int) : Int := if 0 ≤ k ∧ k < (u.own.length : Int) then uLit c (u.own.getD k.toNat []) l else -1
noncomputable def UnV.bad (c : CirT) (u : UnV) (k p : Int) : Int := u.lit c k (pickL c.bads p)
noncomputable def UnV.cons (c : CirT) (u : UnV) (k : Int) : List Int := if 0 ≤ k ∧ k < (u.own.length : Int) then c.cons.map (fun x => u.lit c k x) else []
noncomputable def ulStep (a b : List Int) (s : Int × List (Int × Int)) (n : Nat) : Int × List (Int × Int) := orV (xorV s.2 (a.getD n 0) (b.getD n 0)).2 s.1 (xorV s.2 (a.getD n 0) (b.getD n 0)).1
noncomputable def ulTo (a b : List Int) (N : List (Int × Int)) (k : Nat) : Int × List (Int × Int) := (List.range k).foldl (ulStep a b) (0, N)
theorem ulTo_succ (a b : List Int) (N : List (Int × Int)) (k : Nat) : ulTo a b N (k + 1) = ulStep a b (ulTo a b N k) k := by
 unfold ulTo; rw [List.range_succ, List.foldl_append]; rfl
theorem ulTo_inv {a b : List Int} {N : List (Int × Int)} (ha : ∀ z ∈ a, hasL N z) (hb : ∀ z ∈ b, hasL N z) (hl : b.length = a.length) : ∀ k, k ≤ a.length → hasL (ulTo a b N k).2 (ulTo a b N k).1 ∧ N.length ≤ (ulTo a b N k).2.length ∧ (ulTo a b N k).2.length ≤ N.length + 4 * k ∧ Grow N (ulTo a b N k).2
 | 0, _ => ⟨(show hasL N 0 by unfold hasL; omega), Nat.le_refl _, Nat.le_refl _, .refl _⟩
 | k + 1, hk => by
  obtain ⟨x, hx⟩ := getI a (show k < _ by omega)
  obtain ⟨y, hy⟩ := getI b (show k < _ by omega)
  obtain ⟨i1, i2, i3, i4⟩ := ulTo_inv ha hb hl k (by omega)
  rw [ulTo_succ]
  unfold ulStep
  rw [getD_of hx, getD_of hy]
  generalize ulTo a b N k = s at i1 i2 i3 i4
  have hxh := hasL_mono (ha x (List.mem_of_getElem? hx)) i2
  have hyh := hasL_mono (hb y (List.mem_of_getElem? hy)) i2
  have l1 : s.2.length ≤ (xorV s.2 x y).2.length ∧ (xorV s.2 x y).2.length ≤ s.2.length + 3 := muxV_len _ _ _ _
  have h1 : hasL (xorV s.2 x y).2 (xorV s.2 x y).1 := muxV_has hxh (notL_has hyh) hyh
  have l2 := orV_len (xorV s.2 x y).2 s.1 (xorV s.2 x y).1
  exact ⟨orV_has (hasL_mono i1 l1.1) h1, by omega, by omega, (i4.trans (muxV_grow _ _ _ _)).trans (orV_grow _ _ _)⟩
open Classical in
noncomputable def unlikeU (u : UnV) (i k : Int) : Int × UnV :=
 if (0 ≤ i ∧ i < (u.st.length : Int)) ∧ (0 ≤ k ∧ k < (u.st.length : Int)) then ((ulTo (rowU u.st i) (rowU u.st k) u.N (rowU u.st i).length).1, { u with N := (ulTo (rowU u.st i) (rowU u.st k) u.N (rowU u.st i).length).2 }) else (-1, u)
theorem rowU_mem {ls : List (List Int)} {k : Int} (h : 0 ≤ k ∧ k < (ls.length : Int)) : ls[k.toNat]? = some (rowU ls k) ∧ rowU ls k ∈ ls := by
 obtain ⟨r, hr⟩ := getI ls (show k.toNat < ls.length by omega)
 have e : rowU ls k = r := by unfold rowU; rw [if_pos h, getD_of hr]
 rw [e]; exact ⟨hr, List.mem_of_getElem? hr⟩
theorem UOk.grow {c : CirT} {u : UnV} (h : UOk c u) {N : List (Int × Int)} (hG : Grow u.N N) : UOk c { u with N := N } :=
 ⟨h.li, h.ls, fun s hs => ⟨(h.st s hs).1, fun z hz => hG.has ((h.st s hs).2 z hz)⟩, fun s hs => ⟨(h.own s hs).1, fun z hz => hG.has ((h.own s hs).2 z hz)⟩, fun s hs => ⟨(h.ins s hs).1, fun z hz => hG.has ((h.ins s hs).2 z hz)⟩, hG.tidy h.tidy⟩
noncomputable def runU (u : UnV) (ins : List Bool) (k : Int) : List Bool × List (List Bool) :=
 if 0 ≤ k ∧ k < (u.own.length : Int) then ((rowU u.st 0).map (ofL (values u.N ins)), (u.ins.take (k.toNat + 1)).map (fun l => l.map (ofL (values u.N ins)))) else ([], [])
end Go.Proofs.Yteidpnpbfagaeaa
namespace Go.Lt
open Go.RowKit
set_option linter.unusedVariables false
set_option linter.unusedSimpArgs false

section arr
variable {P : Program} {T : Tab} {e : Env} {dd : Option Tmp} {t tt ty : TypeId} {x y : Operand} {ps : String} {af : Array Edge} {g : Option (Nat × Bool)}
theorem yindexA (hT : OkTab P T) {b off n s : Nat} {k : IntKind} {i : Int} {ti ei : TI} {el : TypeId}
  (hx : ev e x = some (.pointer (some ⟨b, off, none⟩))) (hy : ev e y = some (.int k i)) (ht : tget T t = some ti) (hd : ti.desc = .array n el) (he : tget T el = some ei) (hs : ei.size = s)
  (h0 : 0 ≤ i ∧ i < n) : Yields P e ⟨dd, .indexAddr t x y, tt, ps, af, g⟩ (.pointer (some ⟨b, off + i.toNat * s, none⟩)) := by
 intro ρ hρ w'
 have h1 := run_underlying' (hT.at ht); rw [hd] at h1
 have h2 := run_sizeOf' (hT.at he); rw [hs] at h2
 simp [execOp, hρ _ _ hx, hρ _ _ hy, Instr.indexAt, Instr.sureAddr, asIntOf, h1, h2, h0, Addr_add_none]
end arr
section rules
variable {P : Program} {N : Nat} {e : Env} {w : World} {Q : Exit → Act → World → Prop} {C : World → Prop} {ops : List Oper} {l : List Oper} {T : Tab}
 {d : Nat} {tt t ty : TypeId} {ps : String} {af : Array Edge} {g : Option (Nat × Bool)} {x y : Operand}
theorem WL.indexA (hT : OkTab P T) {b off n s : Nat} {k : IntKind} {i : Int} {ti ei : TI} {el : TypeId} (hg : gate ops e g = some true) (hd : Nat.blt d N = true)
  (hx : ev e x = some (.pointer (some ⟨b, off, none⟩))) (hy : ev e y = some (.int k i)) (ht : tget T t = some ti) (htd : ti.desc = .array n el) (he : tget T el = some ei) (hs : ei.size = s) (h0 : 0 ≤ i ∧ i < n)
  (k : WL P N ops.toArray l ((d, .pointer (some ⟨b, off + i.toNat * s, none⟩)) :: e) w Q) : WL P N ops.toArray (⟨some d, .indexAddr t x y, tt, ps, af, g⟩ :: l) e w Q := WL.step hg hd (yindexA hT hx hy ht htd he hs h0).in k
theorem QL.indexA (hT : OkTab P T) {b off n s : Nat} {k : IntKind} {i : Int} {ti ei : TI} {el : TypeId} (hg : gate ops e g = some true) (hd : Nat.blt d N = true)
  (hx : ev e x = some (.pointer (some ⟨b, off, none⟩))) (hy : ev e y = some (.int k i)) (ht : tget T t = some ti) (htd : ti.desc = .array n el) (he : tget T el = some ei) (hs : ei.size = s) (h0 : 0 ≤ i ∧ i < n)
  (k : QL P N C ops.toArray l ((d, .pointer (some ⟨b, off + i.toNat * s, none⟩)) :: e) Q) : QL P N C ops.toArray (⟨some d, .indexAddr t x y, tt, ps, af, g⟩ :: l) e Q := QL.step hg hd (yindexA hT hx hy ht htd he hs h0).in k
end rules

section lift
variable {H : Type} {enc : TypeId × Value → H} {P : Program} {w : World} {base : Nat} {spare : Nat → Bool} {held : Bool}
end lift
end Go.Lt
namespace Go.Lt
open Go.ChangeShapes Go.WideShapes Go.ChangeAt Go.RowKit Go.Deep
end Go.Lt
namespace Go.Lt
open Go.RowKit
set_option linter.unusedVariables false
set_option linter.unusedSimpArgs false

section
variable {P : Program} {T : Tab} {N d : Nat} {e : Env} {w : World} {ops l : List Oper} {Kf : Act → Prop} {tt t ty ct : TypeId} {ps : String} {af : Array Edge} {g : Option (Nat × Bool)} {x y : Operand}
end
end Go.Lt
namespace Go.Lt
open Go.RowKit
set_option linter.unusedVariables false
set_option linter.unusedSimpArgs false

section
variable {P : Program} {T : Tab} {N : Nat} {e : Env} {w : World} {Q : Exit → Act → World → Prop} {ops : List Oper} {l : List Oper}
 {d : Nat} {tt t ty kt et : TypeId} {ps : String} {af : Array Edge} {g : Option (Nat × Bool)} {x y : Operand} {i : TI} {dd : Option Tmp}
end
end Go.Lt
namespace Go.Proofs.Yteidpnpbfagaeaa
open Go Go.Lt Go.RowKit
set_option linter.unusedVariables false
set_option linter.unusedSimpArgs false
set_option maxRecDepth 20000

theorem ofL_notL (v : List Bool) {l : Int} (h : 0 ≤ l) : ofL v (notL l) = !ofL v l := by rw [notL_xor1 h, ofL_xor1 v h]
theorem orV_of {N : List (Int × Int)} (hT : Tidy N) (ins : List Bool) {x y : Int} (hx : hasL N x) (hy : hasL N y) : ofL (values (orV N x y).2 ins) (orV N x y).1 = (ofL (values N ins) x || ofL (values N ins) y) := by
 have h1 := andV_of hT ins (notL_has hx) (notL_has hy)
 have h2 := (andV_has (notL_has hx) (notL_has hy)).1
 show ofL (values (andV N (notL x) (notL y)).2 ins) (notL (andV N (notL x) (notL y)).1) = _
 rw [ofL_notL _ h2, h1, ofL_notL _ hx.1, ofL_notL _ hy.1]
 cases ofL (values N ins) x <;> cases ofL (values N ins) y <;> rfl
theorem muxV_of {N : List (Int × Int)} (hT : Tidy N) (ins : List Bool) {c x y : Int} (hc : hasL N c) (hx : hasL N x) (hy : hasL N y) : ofL (values (muxV N c x y).2 ins) (muxV N c x y).1 = (ofL (values N ins) c && ofL (values N ins) x || !ofL (values N ins) c && ofL (values N ins) y) := by
 rw [muxV_yes ⟨hc, hx, hy⟩]
 have g1 : Grow N (andV N c x).2 := .gate c x (.refl N)
 have g2 : Grow (andV N c x).2 (andV (andV N c x).2 (notL c) y).2 := .gate _ _ (.refl _)
 have l1 := g1.len
 have l2 := g2.len
 have a1 := andV_has hc hx
 have a2 := andV_has (hasL_mono (notL_has hc) l1) (hasL_mono hy l1)
 rw [orV_of ((g1.trans g2).tidy hT) ins (hasL_mono a1 l2) a2, g2.of ins a1, andV_of hT ins hc hx, andV_of (g1.tidy hT) ins (hasL_mono (notL_has hc) l1) (hasL_mono hy l1), g1.of ins (notL_has hc), g1.of ins hy, ofL_notL _ hc.1]
theorem xorV_of {N : List (Int × Int)} (hT : Tidy N) (ins : List Bool) {x y : Int} (hx : hasL N x) (hy : hasL N y) : ofL (values (xorV N x y).2 ins) (xorV N x y).1 = (ofL (values N ins) x != ofL (values N ins) y) := by
 unfold xorV
 rw [muxV_of hT ins hx (notL_has hy) hy, ofL_notL _ hy.1]
 cases ofL (values N ins) x <;> cases ofL (values N ins) y <;> rfl

theorem aig_NetV (gs r cap : Nat) (a : Option Addr) (N : List (Int × Int)) (rest : List Piece) (w w0 : World) (hS : Sep w0.heap.size w (stN w0.heap.size gs a cap r N ++ rest)) (hN : N.length ≤ 1048576) :
  Lt.Spec Try.prog 62 [.pointer (some ⟨gs, 0, none⟩)] w (IsFresh 2 encN 105 w N) := by
 have hC0 := hS.cell (i := 0) rfl
 have hR1 := hS.row (i := 1) rfl
 obtain ⟨hD0, _⟩ := cells_heap hC0
 refine Spec.of _ Try.func62 rfl Try.ntmps62 (by kernel_rfl) rfl ?_
 repeat' (first
  | (apply WL.nilc; (iterate 3 exact rfl))
  | (apply WL.eqNilS tOk; (iterate 6 exact rfl))
  | ((show WL _ _ _ (⟨_, .call ⟨.value (.func 116), _, _⟩, _, _, _, _⟩ :: _) _ _ _); apply WL.call; (iterate 4 exact rfl); exact slices_CloneN _ _ N _ (Own.row encN_ok hR1) (Own.noneCap hR1) hN; rintro v' w' ⟨hx, a', cap', rfl, hO⟩)
  | (show WL _ _ _ _ _ _ _; first | apply WL.nil | (refine WL.au (k := ?_)))
  | (show Z _ _ _ _ _; apply Z.then_normal)
  | (show W _ _ _ _ _ _; first | apply W.seq | apply W.region | apply W.skip | apply W.ret | (apply W.condF; exact rfl))
  | fail)
 exact Z.body1 Try.results62 rfl fun m => ⟨Ext.at extA m, a', cap', rfl, hO⟩
end Go.Proofs.Yteidpnpbfagaeaa
namespace Go.Proofs.Yteidpnpbfagaeaa
open Go Go.Lt Go.RowKit
set_option linter.unusedVariables false
set_option linter.unusedSimpArgs false
set_option maxRecDepth 20000

theorem few_iff {c : CirT} {m : Int} : FewC c m ↔ (c.ins.length : Int) ≤ m ∧ (c.lat.length : Int) ≤ m ∧ (c.gates.length : Int) ≤ m ∧ (c.outs.length : Int) ≤ m ∧ (c.bads.length : Int) ≤ m ∧ (c.cons.length : Int) ≤ m ∧ (c.syms.length : Int) ≤ m ∧ (c.com.size : Int) ≤ 300 := Iff.rfl
set_option maxHeartbeats 16000000 in
set_option maxRecDepth 10000 in
theorem law11_Few (c : Circ) (m : Int) (w : World) : Pure Try.prog 49 [c.val, .int .i64 m] w (.bool (dec (FewC c.t m))) := by
 by_cases f0 : (c.ins.2.2.length : Int) ≤ m
 rotate_left
 ·skip
  refine Spec.of _ Try.func49 rfl Try.ntmps49 (by kernel_rfl) rfl ?_
  repeat' (first
   | (apply WL.box; (iterate 3 exact rfl); intro gb w' hb hge hc hx; have hcc := hc; (first | (obtain ⟨h1, h2, h3, _⟩ := hc) | (obtain ⟨h1, h2, _⟩ := hc)); (obtain ⟨y0, y1, y2, y3, y4, y5, y6, y7, y8, _⟩ := hcc))
   | (apply WL.gF; exact rfl; exact rfl; (focus (first | exact dec_false f0; done)))
   | (show WL _ _ _ _ _ _ _; first | apply WL.nil | (refine WL.au (k := ?_)) | (apply WL.guardF; exact rfl; exact rfl))
   | (show Z _ _ _ _ _; apply Z.then_normal)
   | (show W _ _ _ _ _ _; first | apply W.seq | apply W.region | apply W.ret)
   | fail)
  exact Z.body1 Try.results49 rfl fun q => ⟨congrArg Value.bool (by rw [dec_false (show ¬ FewC c.t m from fun h => f0 (few_iff.1 h).1)] <;> exact dec_false f0), Ext.at extA q⟩
 by_cases f1 : (c.lat.2.2.length : Int) ≤ m
 rotate_left
 ·skip
  refine Spec.of _ Try.func49 rfl Try.ntmps49 (by kernel_rfl) rfl ?_
  repeat' (first
   | (apply WL.box; (iterate 3 exact rfl); intro gb w' hb hge hc hx; have hcc := hc; (first | (obtain ⟨h1, h2, h3, _⟩ := hc) | (obtain ⟨h1, h2, _⟩ := hc)); (obtain ⟨y0, y1, y2, y3, y4, y5, y6, y7, y8, _⟩ := hcc))
   | (apply WL.gT; exact rfl; exact rfl; (focus (first | exact dec_true f0 | exact dec_false f1; done)))
   | (apply WL.gF; exact rfl; exact rfl; (focus (first | exact dec_true f0 | exact dec_false f1; done)))
   | (show WL _ _ _ _ _ _ _; first | apply WL.nil | (refine WL.au (k := ?_)) | (apply WL.guardF; exact rfl; exact rfl))
   | (show Z _ _ _ _ _; apply Z.then_normal)
   | (show W _ _ _ _ _ _; first | apply W.seq | apply W.region | apply W.ret)
   | fail)
  exact Z.body1 Try.results49 rfl fun q => ⟨congrArg Value.bool (by rw [dec_false (show ¬ FewC c.t m from fun h => f1 (few_iff.1 h).2.1)] <;> exact dec_false f1), Ext.at extA q⟩
 by_cases f2 : (c.gates.2.2.length : Int) ≤ m
 rotate_left
 ·skip
  refine Spec.of _ Try.func49 rfl Try.ntmps49 (by kernel_rfl) rfl ?_
  repeat' (first
   | (apply WL.box; (iterate 3 exact rfl); intro gb w' hb hge hc hx; have hcc := hc; (first | (obtain ⟨h1, h2, h3, _⟩ := hc) | (obtain ⟨h1, h2, _⟩ := hc)); (obtain ⟨y0, y1, y2, y3, y4, y5, y6, y7, y8, _⟩ := hcc))
   | (apply WL.gT; exact rfl; exact rfl; (focus (first | exact dec_true f0 | exact dec_true f1 | exact dec_false f2; done)))
   | (apply WL.gF; exact rfl; exact rfl; (focus (first | exact dec_true f0 | exact dec_true f1 | exact dec_false f2; done)))
   | (show WL _ _ _ _ _ _ _; first | apply WL.nil | (refine WL.au (k := ?_)) | (apply WL.guardF; exact rfl; exact rfl))
   | (show Z _ _ _ _ _; apply Z.then_normal)
   | (show W _ _ _ _ _ _; first | apply W.seq | apply W.region | apply W.ret)
   | fail)
  exact Z.body1 Try.results49 rfl fun q => ⟨congrArg Value.bool (by rw [dec_false (show ¬ FewC c.t m from fun h => f2 (few_iff.1 h).2.2.1)] <;> exact dec_false f2), Ext.at extA q⟩
 by_cases f3 : (c.outs.2.2.length : Int) ≤ m
 rotate_left
 ·skip
  refine Spec.of _ Try.func49 rfl Try.ntmps49 (by kernel_rfl) rfl ?_
  repeat' (first
   | (apply WL.box; (iterate 3 exact rfl); intro gb w' hb hge hc hx; have hcc := hc; (first | (obtain ⟨h1, h2, h3, _⟩ := hc) | (obtain ⟨h1, h2, _⟩ := hc)); (obtain ⟨y0, y1, y2, y3, y4, y5, y6, y7, y8, _⟩ := hcc))
   | (apply WL.gT; exact rfl; exact rfl; (focus (first | exact dec_true f0 | exact dec_true f1 | exact dec_true f2 | exact dec_false f3; done)))
   | (apply WL.gF; exact rfl; exact rfl; (focus (first | exact dec_true f0 | exact dec_true f1 | exact dec_true f2 | exact dec_false f3; done)))
   | (show WL _ _ _ _ _ _ _; first | apply WL.nil | (refine WL.au (k := ?_)) | (apply WL.guardF; exact rfl; exact rfl))
   | (show Z _ _ _ _ _; apply Z.then_normal)
   | (show W _ _ _ _ _ _; first | apply W.seq | apply W.region | apply W.ret)
   | fail)
  exact Z.body1 Try.results49 rfl fun q => ⟨congrArg Value.bool (by rw [dec_false (show ¬ FewC c.t m from fun h => f3 (few_iff.1 h).2.2.2.1)] <;> exact dec_false f3), Ext.at extA q⟩
 by_cases f4 : (c.bads.2.2.length : Int) ≤ m
 rotate_left
 ·skip
  refine Spec.of _ Try.func49 rfl Try.ntmps49 (by kernel_rfl) rfl ?_
  repeat' (first
   | (apply WL.box; (iterate 3 exact rfl); intro gb w' hb hge hc hx; have hcc := hc; (first | (obtain ⟨h1, h2, h3, _⟩ := hc) | (obtain ⟨h1, h2, _⟩ := hc)); (obtain ⟨y0, y1, y2, y3, y4, y5, y6, y7, y8, _⟩ := hcc))
   | (apply WL.gT; exact rfl; exact rfl; (focus (first | exact dec_true f0 | exact dec_true f1 | exact dec_true f2 | exact dec_true f3 | exact dec_false f4; done)))
   | (apply WL.gF; exact rfl; exact rfl; (focus (first | exact dec_true f0 | exact dec_true f1 | exact dec_true f2 | exact dec_true f3 | exact dec_false f4; done)))
   | (show WL _ _ _ _ _ _ _; first | apply WL.nil | (refine WL.au (k := ?_)) | (apply WL.guardF; exact rfl; exact rfl))
   | (show Z _ _ _ _ _; apply Z.then_normal)
   | (show W _ _ _ _ _ _; first | apply W.seq | apply W.region | apply W.ret)
   | fail)
  exact Z.body1 Try.results49 rfl fun q => ⟨congrArg Value.bool (by rw [dec_false (show ¬ FewC c.t m from fun h => f4 (few_iff.1 h).2.2.2.2.1)] <;> exact dec_false f4), Ext.at extA q⟩
 by_cases f5 : (c.cons.2.2.length : Int) ≤ m
 rotate_left
 ·skip
  refine Spec.of _ Try.func49 rfl Try.ntmps49 (by kernel_rfl) rfl ?_
  repeat' (first
   | (apply WL.box; (iterate 3 exact rfl); intro gb w' hb hge hc hx; have hcc := hc; (first | (obtain ⟨h1, h2, h3, _⟩ := hc) | (obtain ⟨h1, h2, _⟩ := hc)); (obtain ⟨y0, y1, y2, y3, y4, y5, y6, y7, y8, _⟩ := hcc))
   | (apply WL.gT; exact rfl; exact rfl; (focus (first | exact dec_true f0 | exact dec_true f1 | exact dec_true f2 | exact dec_true f3 | exact dec_true f4 | exact dec_false f5; done)))
   | (apply WL.gF; exact rfl; exact rfl; (focus (first | exact dec_true f0 | exact dec_true f1 | exact dec_true f2 | exact dec_true f3 | exact dec_true f4 | exact dec_false f5; done)))
   | (show WL _ _ _ _ _ _ _; first | apply WL.nil | (refine WL.au (k := ?_)) | (apply WL.guardF; exact rfl; exact rfl))
   | (show Z _ _ _ _ _; apply Z.then_normal)
   | (show W _ _ _ _ _ _; first | apply W.seq | apply W.region | apply W.ret)
   | fail)
  exact Z.body1 Try.results49 rfl fun q => ⟨congrArg Value.bool (by rw [dec_false (show ¬ FewC c.t m from fun h => f5 (few_iff.1 h).2.2.2.2.2.1)] <;> exact dec_false f5), Ext.at extA q⟩
 by_cases f6 : (c.syms.2.2.length : Int) ≤ m
 rotate_left
 ·skip
  refine Spec.of _ Try.func49 rfl Try.ntmps49 (by kernel_rfl) rfl ?_
  repeat' (first
   | (apply WL.box; (iterate 3 exact rfl); intro gb w' hb hge hc hx; have hcc := hc; (first | (obtain ⟨h1, h2, h3, _⟩ := hc) | (obtain ⟨h1, h2, _⟩ := hc)); (obtain ⟨y0, y1, y2, y3, y4, y5, y6, y7, y8, _⟩ := hcc))
   | (apply WL.gT; exact rfl; exact rfl; (focus (first | exact dec_true f0 | exact dec_true f1 | exact dec_true f2 | exact dec_true f3 | exact dec_true f4 | exact dec_true f5 | exact dec_false f6; done)))
   | (apply WL.gF; exact rfl; exact rfl; (focus (first | exact dec_true f0 | exact dec_true f1 | exact dec_true f2 | exact dec_true f3 | exact dec_true f4 | exact dec_true f5 | exact dec_false f6; done)))
   | (show WL _ _ _ _ _ _ _; first | apply WL.nil | (refine WL.au (k := ?_)) | (apply WL.guardF; exact rfl; exact rfl))
   | (show Z _ _ _ _ _; apply Z.then_normal)
   | (show W _ _ _ _ _ _; first | apply W.seq | apply W.region | apply W.ret)
   | fail)
  exact Z.body1 Try.results49 rfl fun q => ⟨congrArg Value.bool (by rw [dec_false (show ¬ FewC c.t m from fun h => f6 (few_iff.1 h).2.2.2.2.2.2.1)] <;> exact dec_false f6), Ext.at extA q⟩
 by_cases f7 : (c.com.size : Int) ≤ 300
 rotate_left
 ·skip
  refine Spec.of _ Try.func49 rfl Try.ntmps49 (by kernel_rfl) rfl ?_
  repeat' (first
   | (apply WL.box; (iterate 3 exact rfl); intro gb w' hb hge hc hx; have hcc := hc; (first | (obtain ⟨h1, h2, h3, _⟩ := hc) | (obtain ⟨h1, h2, _⟩ := hc)); (obtain ⟨y0, y1, y2, y3, y4, y5, y6, y7, y8, _⟩ := hcc))
   | (apply WL.gT; exact rfl; exact rfl; (focus (first | exact dec_true f0 | exact dec_true f1 | exact dec_true f2 | exact dec_true f3 | exact dec_true f4 | exact dec_true f5 | exact dec_true f6 | exact dec_false f7; done)))
   | (show WL _ _ _ _ _ _ _; first | apply WL.nil | (refine WL.au (k := ?_)))
   | (show Z _ _ _ _ _; apply Z.then_normal)
   | (show W _ _ _ _ _ _; first | apply W.seq | apply W.region | apply W.ret)
   | fail)
  exact Z.body1 Try.results49 rfl fun q => ⟨congrArg Value.bool (by rw [dec_false (show ¬ FewC c.t m from fun h => f7 (few_iff.1 h).2.2.2.2.2.2.2)] <;> exact dec_false f7), Ext.at extA q⟩
 refine Spec.of _ Try.func49 rfl Try.ntmps49 (by kernel_rfl) rfl ?_
 repeat' (first
  | (apply WL.box; (iterate 3 exact rfl); intro gb w' hb hge hc hx; have hcc := hc; (first | (obtain ⟨h1, h2, h3, _⟩ := hc) | (obtain ⟨h1, h2, _⟩ := hc)); (obtain ⟨y0, y1, y2, y3, y4, y5, y6, y7, y8, _⟩ := hcc))
  | (apply WL.gT; exact rfl; exact rfl; (focus (first | exact dec_true f0 | exact dec_true f1 | exact dec_true f2 | exact dec_true f3 | exact dec_true f4 | exact dec_true f5 | exact dec_true f6 | exact dec_true f7; done)))
  | (show WL _ _ _ _ _ _ _; first | apply WL.nil | (refine WL.au (k := ?_)))
  | (show Z _ _ _ _ _; apply Z.then_normal)
  | (show W _ _ _ _ _ _; first | apply W.seq | apply W.region | apply W.ret)
  | fail)
 exact Z.body1 Try.results49 rfl fun q => ⟨congrArg Value.bool (by rw [dec_true (show FewC c.t m from few_iff.2 ⟨f0, f1, f2, f3, f4, f5, f6, f7⟩)] <;> exact dec_true f7), Ext.at extA q⟩
end Go.Proofs.Yteidpnpbfagaeaa
namespace Go.Proofs.Yteidpnpbfagaeaa
open Go Go.Lt Go.RowKit
set_option linter.unusedVariables false
set_option linter.unusedSimpArgs false
set_option maxRecDepth 20000

set_option maxHeartbeats 16000000 in
theorem circ_defined (c : Circ) (w : World) (hC : CAt w c) (hz : SzC c.t 100000) :
  Lt.Spec Try.prog 136 [c.val] w (IsFresh 1 encI 3 w c.t.own) := by
 have z1 : c.ins.2.2.length ≤ 100000 := hz.1
 have z2 : c.lat.2.2.length ≤ 100000 := hz.2.1
 have z6 : c.gates.2.2.length ≤ 100000 := hz.2.2.2.2.2
 refine Spec.of _ Try.func136 rfl Try.ntmps136 (by kernel_rfl) rfl ?_
 repeat' (first
  | (apply WL.box; (iterate 3 exact rfl); intro gb w' hb hge hc hx; have hcc := hc; (first | (obtain ⟨h1, h2, h3, _⟩ := hc) | (obtain ⟨h1, h2, _⟩ := hc)); (have hcells := hcc; obtain ⟨y0, y1, y2, y3, y4, y5, y6, _⟩ := hcc; obtain ⟨gc, rfl⟩ : ∃ x, x = gb := ⟨_, rfl⟩; obtain ⟨wc, rfl⟩ : ∃ x, x = w' := ⟨_, rfl⟩; obtain ⟨hxc, rfl⟩ : ∃ x, x = hx := ⟨_, rfl⟩))
  | ((show WL _ _ _ (⟨_, .call ⟨.value (.func 78), _, _⟩, _, _, _, _⟩ :: _) _ _ _); apply WL.call; (iterate 4 exact rfl); exact slices_CloneI _ _ c.ins.2.2 _ (hC.ins.row.ext extA) hC.ins.none (by omega); rintro v' w' ⟨hx, a', cap', rfl, hO⟩; (obtain ⟨hOc, rfl⟩ : ∃ x, x = hO := ⟨_, rfl⟩; obtain ⟨hxl, rfl⟩ : ∃ x, x = hx := ⟨_, rfl⟩; obtain ⟨wl, rfl⟩ : ∃ x, x = w' := ⟨_, rfl⟩; obtain ⟨al, rfl⟩ : ∃ x, x = a' := ⟨_, rfl⟩; obtain ⟨cl, rfl⟩ : ∃ x, x = cap' := ⟨_, rfl⟩))
  | (show WL _ _ _ _ _ _ _; first | apply WL.nil | (refine WL.au (k := ?_)))
  | (show Z _ _ _ _ _; apply Z.then_normal)
  | (show W _ _ _ _ _ _; first | apply W.seq | apply W.region | apply W.block)
  | fail)
 have Rl := hC.lat.row.ext hxc
 have Rg := hC.gates.row.ext hxc
 have hXl : Ext wc wl := extA
 have hS : Lt.Sep wc.heap.size wl [prow 1 encI 3 wc.heap.size al cl c.ins.2.2] := Sep.none'.newRow' hxl hOc (Nat.le_refl _)
 refine W.loopO c.lat.2.2.length (fun k a cp w' => k ≤ c.lat.2.2.length ∧ Ext wc w' ∧ Lt.Sep wc.heap.size w' [prow 1 encI 3 wc.heap.size a cp (c.ins.2.2 ++ (c.lat.2.2.take k).map (·.1))]) (fun k a cp => [(1, .pointer (some ⟨gc, 0, none⟩)), (3, .slice a (c.ins.2.2 ++ (c.lat.2.2.take k).map (·.1)).length cp), (12, rowVal c.lat), (13, .int .i64 (c.lat.2.2.length : Nat)), (14, .int .i64 k)]) al cl ⟨Nat.zero_le _, hXl, by simpa using hS⟩ (fun k a cp w' h => h.1) (by rw [List.take_zero, List.map_nil, List.append_nil]; exact ⟨rfl, rfl, rfl, rfl, rfl, trivial⟩) ?_
 clear hS
 rintro k a cp w3 ⟨hk, hX3, hS⟩
 have hR0 := hS.row (i := 0) rfl
 have hlk : (c.ins.2.2 ++ (c.lat.2.2.take k).map (·.1)).length = c.ins.2.2.length + k := by simp; omega
 by_cases hlt : k < c.lat.2.2.length
 ·obtain ⟨x, hgx⟩ := getI c.lat.2.2 hlt
  have e1 := map_take_succ (·.1) hgx
  repeat' (first
   | (apply W.condKT; exact rfl; (focus (exact dec_true (by omega); done)))
   | (apply WL.alloc tOk; (iterate 3 exact rfl); intro gb w' hb hge hx; replace hS := Sep.newCell (Sep.ext hS extA) hx hb hge (by (first | exact Nat.le_refl _ | exact Below.size extA)); (try simp only [List.set_cons_zero, List.set_cons_succ] at hS); (try have hR0 := hS.row (i := 0) rfl); (try have hR1 := hS.row (i := 1) rfl); (try have hR2 := hS.row (i := 2) rfl); (try have hR3 := hS.row (i := 3) rfl); (try have hR4 := hS.row (i := 4) rfl); (try have hC0 := hS.cell (i := 0) rfl); (try have hD0 := (cells_heap hC0).1); (try have hE0 := (cells_heap hC0).2.1); (try have hF0 := (cells_heap hC0).2.2.1); (try have hG0 := (cells_heap hC0).2.2.2.1); (try have hC1 := hS.cell (i := 1) rfl); (try have hD1 := (cells_heap hC1).1); (try have hE1 := (cells_heap hC1).2.1); (try have hF1 := (cells_heap hC1).2.2.1); (try have hG1 := (cells_heap hC1).2.2.2.1); (try have hC2 := hS.cell (i := 2) rfl); (try have hD2 := (cells_heap hC2).1); (try have hE2 := (cells_heap hC2).2.1); (try have hF2 := (cells_heap hC2).2.2.1); (try have hG2 := (cells_heap hC2).2.2.2.1); (try have hC3 := hS.cell (i := 3) rfl); (try have hD3 := (cells_heap hC3).1); (try have hE3 := (cells_heap hC3).2.1); (try have hF3 := (cells_heap hC3).2.2.1); (try have hG3 := (cells_heap hC3).2.2.2.1); (try have hC4 := hS.cell (i := 4) rfl); (try have hD4 := (cells_heap hC4).1); (try have hE4 := (cells_heap hC4).2.1); (try have hF4 := (cells_heap hC4).2.2.1); (try have hG4 := (cells_heap hC4).2.2.2.1); (try have hM0 := hS.map (i := 0) rfl); (try have hM1 := hS.map (i := 1) rfl); (try have hM2 := hS.map (i := 2) rfl); (try have hM3 := hS.map (i := 3) rfl); (try have hM4 := hS.map (i := 4) rfl))
   | (apply WL.storeB (w0 := wc) tOk; (iterate 4 exact rfl); assumption; (exact extA); (iterate 3 exact rfl); (exact extA); (first | assumption | omega | (focus (apply Nat.le_trans; rotate_left; assumption; exact Below.size extA; done))); intro w' hb hc hX' hU; have hcc := hc; obtain ⟨h1, h2, _⟩ := hc; replace hS := Sep.updCell (i := 0) rfl hU hb hS extA (by (first | exact Nat.le_refl _ | exact Below.size extA)); (try simp only [List.set_cons_zero, List.set_cons_succ] at hS); (try have hR0 := hS.row (i := 0) rfl); (try have hR1 := hS.row (i := 1) rfl); (try have hR2 := hS.row (i := 2) rfl); (try have hR3 := hS.row (i := 3) rfl); (try have hR4 := hS.row (i := 4) rfl); (try have hC0 := hS.cell (i := 0) rfl); (try have hD0 := (cells_heap hC0).1); (try have hE0 := (cells_heap hC0).2.1); (try have hF0 := (cells_heap hC0).2.2.1); (try have hG0 := (cells_heap hC0).2.2.2.1); (try have hC1 := hS.cell (i := 1) rfl); (try have hD1 := (cells_heap hC1).1); (try have hE1 := (cells_heap hC1).2.1); (try have hF1 := (cells_heap hC1).2.2.1); (try have hG1 := (cells_heap hC1).2.2.2.1); (try have hC2 := hS.cell (i := 2) rfl); (try have hD2 := (cells_heap hC2).1); (try have hE2 := (cells_heap hC2).2.1); (try have hF2 := (cells_heap hC2).2.2.1); (try have hG2 := (cells_heap hC2).2.2.2.1); (try have hC3 := hS.cell (i := 3) rfl); (try have hD3 := (cells_heap hC3).1); (try have hE3 := (cells_heap hC3).2.1); (try have hF3 := (cells_heap hC3).2.2.1); (try have hG3 := (cells_heap hC3).2.2.2.1); (try have hC4 := hS.cell (i := 4) rfl); (try have hD4 := (cells_heap hC4).1); (try have hE4 := (cells_heap hC4).2.1); (try have hF4 := (cells_heap hC4).2.2.1); (try have hG4 := (cells_heap hC4).2.2.2.1); (try have hM0 := hS.map (i := 0) rfl); (try have hM1 := hS.map (i := 1) rfl); (try have hM2 := hS.map (i := 2) rfl); (try have hM3 := hS.map (i := 3) rfl); (try have hM4 := hS.map (i := 4) rfl))
   | (apply WL.lit tOk; (iterate 6 exact rfl); (first | exact rfl | kernel_rfl | (simp [Instr.fill, catCells]; done)); exact rfl; intro gb w' hb hge hc hx)
   | (apply WL.append1 (z := (x.1)) tOk encI_ok; (iterate 10 exact rfl); assumption; (exact extA); (first | exact rfl | (focus (simp only [List.length_set]; done)) | (focus (simp; done)) | (focus (simp [*]; done)) | omega | (focus (simp only [List.length_set]; omega))); (first | assumption | (refine Cells.ext ?_ (by assumption); exact extA)); exact rfl; exact rfl; (exact extA); (first | omega | (simp; omega) | (simp at *; omega)); intro a' cap' w' hO hX' hU hF; (first | replace hS := Sep.updRow (i := 0) rfl hU hO hF hS extA (by (first | exact Nat.le_refl _ | exact Below.size extA)) | replace hS := Sep.updRow (i := 1) rfl hU hO hF hS extA (by (first | exact Nat.le_refl _ | exact Below.size extA)) | replace hS := Sep.updRow (i := 2) rfl hU hO hF hS extA (by (first | exact Nat.le_refl _ | exact Below.size extA)) | replace hS := Sep.updRow (i := 3) rfl hU hO hF hS extA (by (first | exact Nat.le_refl _ | exact Below.size extA)) | replace hS := Sep.updRow (i := 4) rfl hU hO hF hS extA (by (first | exact Nat.le_refl _ | exact Below.size extA)) | replace hS := Sep.updRow (i := 5) rfl hU hO hF hS extA (by (first | exact Nat.le_refl _ | exact Below.size extA))); (try simp only [List.set_cons_zero, List.set_cons_succ] at hS); (try have hR0 := hS.row (i := 0) rfl); (try have hR1 := hS.row (i := 1) rfl); (try have hR2 := hS.row (i := 2) rfl); (try have hR3 := hS.row (i := 3) rfl); (try have hR4 := hS.row (i := 4) rfl); (try have hC0 := hS.cell (i := 0) rfl); (try have hD0 := (cells_heap hC0).1); (try have hE0 := (cells_heap hC0).2.1); (try have hF0 := (cells_heap hC0).2.2.1); (try have hG0 := (cells_heap hC0).2.2.2.1); (try have hC1 := hS.cell (i := 1) rfl); (try have hD1 := (cells_heap hC1).1); (try have hE1 := (cells_heap hC1).2.1); (try have hF1 := (cells_heap hC1).2.2.1); (try have hG1 := (cells_heap hC1).2.2.2.1); (try have hC2 := hS.cell (i := 2) rfl); (try have hD2 := (cells_heap hC2).1); (try have hE2 := (cells_heap hC2).2.1); (try have hF2 := (cells_heap hC2).2.2.1); (try have hG2 := (cells_heap hC2).2.2.2.1); (try have hC3 := hS.cell (i := 3) rfl); (try have hD3 := (cells_heap hC3).1); (try have hE3 := (cells_heap hC3).2.1); (try have hF3 := (cells_heap hC3).2.2.1); (try have hG3 := (cells_heap hC3).2.2.2.1); (try have hC4 := hS.cell (i := 4) rfl); (try have hD4 := (cells_heap hC4).1); (try have hE4 := (cells_heap hC4).2.1); (try have hF4 := (cells_heap hC4).2.2.1); (try have hG4 := (cells_heap hC4).2.2.2.1); (try have hM0 := hS.map (i := 0) rfl); (try have hM1 := hS.map (i := 1) rfl); (try have hM2 := hS.map (i := 2) rfl); (try have hM3 := hS.map (i := 3) rfl); (try have hM4 := hS.map (i := 4) rfl))
   | (show WL _ _ _ _ _ _ _; first | apply WL.nil | (refine WL.au (k := ?_)) | (apply WL.index tOk; (iterate 8 exact rfl); assumption; (exact extA); exact rfl; omega; assumption; intro b off h; have hcc := h; first | (obtain ⟨h1, h2, h3, h4, h5, h6, _⟩ := h) | (obtain ⟨h1, h2, h3, _⟩ := h) | (obtain ⟨h1, h2, _⟩ := h) | (obtain ⟨h1, _⟩ := h)))
   | (show Z _ _ _ _ _; first | apply Z.then_normal | apply Z.block_normal)
   | (show W _ _ _ _ _ _; first | apply W.seq | apply W.region | apply W.block | apply W.skip)
   | fail)
  exact Z.againO a' cap' ⟨by omega, extA, by rw [e1, ← List.append_assoc]; exact hS.drop 1⟩ ⟨rfl, by rw [e1, ← List.append_assoc]; exact rfl, rfl, rfl, rfl, trivial⟩
 obtain rfl : k = c.lat.2.2.length := by omega
 rw [List.take_length] at hS hR0 hlk ⊢
 repeat' (first
  | (apply W.condKF; exact rfl; (focus (exact dec_false (by omega); done)))
  | (show WL _ _ _ _ _ _ _; first | apply WL.nil | (refine WL.au (k := ?_)))
  | (show Z _ _ _ _ _; first | apply Z.then_normal | apply Z.then_exit | apply Z.block_exit)
  | (show W _ _ _ _ _ _; first | apply W.seq | apply W.region | apply W.block | apply W.exit)
  | fail)
 refine W.loopO c.gates.2.2.length (fun k a cp w' => k ≤ c.gates.2.2.length ∧ Ext wc w' ∧ Lt.Sep wc.heap.size w' [prow 1 encI 3 wc.heap.size a cp (c.ins.2.2 ++ c.lat.2.2.map (·.1) ++ (c.gates.2.2.take k).map (·.1))]) (fun k a cp => [(1, .pointer (some ⟨gc, 0, none⟩)), (3, .slice a (c.ins.2.2 ++ c.lat.2.2.map (·.1) ++ (c.gates.2.2.take k).map (·.1)).length cp), (25, rowVal c.gates), (26, .int .i64 (c.gates.2.2.length : Nat)), (27, .int .i64 k)]) a cp ⟨Nat.zero_le _, hX3, by simpa using hS⟩ (fun k a cp w' h => h.1) (by rw [List.take_zero, List.map_nil, List.append_nil]; exact ⟨rfl, rfl, rfl, rfl, rfl, trivial⟩) ?_
 clear hS hX3 hR0
 rintro k a cp w3 ⟨hk, hX3, hS⟩
 have hR0 := hS.row (i := 0) rfl
 have hlk2 : (c.ins.2.2 ++ c.lat.2.2.map (·.1) ++ (c.gates.2.2.take k).map (·.1)).length = c.ins.2.2.length + c.lat.2.2.length + k := by simp; omega
 by_cases hlt : k < c.gates.2.2.length
 ·obtain ⟨x, hgx⟩ := getI c.gates.2.2 hlt
  have e1 := map_take_succ (·.1) hgx
  repeat' (first
   | (apply W.condKT; exact rfl; (focus (exact dec_true (by omega); done)))
   | (apply WL.alloc tOk; (iterate 3 exact rfl); intro gb w' hb hge hx; replace hS := Sep.newCell (Sep.ext hS extA) hx hb hge (by (first | exact Nat.le_refl _ | exact Below.size extA)); (try simp only [List.set_cons_zero, List.set_cons_succ] at hS); (try have hR0 := hS.row (i := 0) rfl); (try have hR1 := hS.row (i := 1) rfl); (try have hR2 := hS.row (i := 2) rfl); (try have hR3 := hS.row (i := 3) rfl); (try have hR4 := hS.row (i := 4) rfl); (try have hC0 := hS.cell (i := 0) rfl); (try have hD0 := (cells_heap hC0).1); (try have hE0 := (cells_heap hC0).2.1); (try have hF0 := (cells_heap hC0).2.2.1); (try have hG0 := (cells_heap hC0).2.2.2.1); (try have hC1 := hS.cell (i := 1) rfl); (try have hD1 := (cells_heap hC1).1); (try have hE1 := (cells_heap hC1).2.1); (try have hF1 := (cells_heap hC1).2.2.1); (try have hG1 := (cells_heap hC1).2.2.2.1); (try have hC2 := hS.cell (i := 2) rfl); (try have hD2 := (cells_heap hC2).1); (try have hE2 := (cells_heap hC2).2.1); (try have hF2 := (cells_heap hC2).2.2.1); (try have hG2 := (cells_heap hC2).2.2.2.1); (try have hC3 := hS.cell (i := 3) rfl); (try have hD3 := (cells_heap hC3).1); (try have hE3 := (cells_heap hC3).2.1); (try have hF3 := (cells_heap hC3).2.2.1); (try have hG3 := (cells_heap hC3).2.2.2.1); (try have hC4 := hS.cell (i := 4) rfl); (try have hD4 := (cells_heap hC4).1); (try have hE4 := (cells_heap hC4).2.1); (try have hF4 := (cells_heap hC4).2.2.1); (try have hG4 := (cells_heap hC4).2.2.2.1); (try have hM0 := hS.map (i := 0) rfl); (try have hM1 := hS.map (i := 1) rfl); (try have hM2 := hS.map (i := 2) rfl); (try have hM3 := hS.map (i := 3) rfl); (try have hM4 := hS.map (i := 4) rfl))
   | (apply WL.storeB (w0 := wc) tOk; (iterate 4 exact rfl); assumption; (exact extA); (iterate 3 exact rfl); (exact extA); (first | assumption | omega | (focus (apply Nat.le_trans; rotate_left; assumption; exact Below.size extA; done))); intro w' hb hc hX' hU; have hcc := hc; obtain ⟨h1, h2, _⟩ := hc; replace hS := Sep.updCell (i := 0) rfl hU hb hS extA (by (first | exact Nat.le_refl _ | exact Below.size extA)); (try simp only [List.set_cons_zero, List.set_cons_succ] at hS); (try have hR0 := hS.row (i := 0) rfl); (try have hR1 := hS.row (i := 1) rfl); (try have hR2 := hS.row (i := 2) rfl); (try have hR3 := hS.row (i := 3) rfl); (try have hR4 := hS.row (i := 4) rfl); (try have hC0 := hS.cell (i := 0) rfl); (try have hD0 := (cells_heap hC0).1); (try have hE0 := (cells_heap hC0).2.1); (try have hF0 := (cells_heap hC0).2.2.1); (try have hG0 := (cells_heap hC0).2.2.2.1); (try have hC1 := hS.cell (i := 1) rfl); (try have hD1 := (cells_heap hC1).1); (try have hE1 := (cells_heap hC1).2.1); (try have hF1 := (cells_heap hC1).2.2.1); (try have hG1 := (cells_heap hC1).2.2.2.1); (try have hC2 := hS.cell (i := 2) rfl); (try have hD2 := (cells_heap hC2).1); (try have hE2 := (cells_heap hC2).2.1); (try have hF2 := (cells_heap hC2).2.2.1); (try have hG2 := (cells_heap hC2).2.2.2.1); (try have hC3 := hS.cell (i := 3) rfl); (try have hD3 := (cells_heap hC3).1); (try have hE3 := (cells_heap hC3).2.1); (try have hF3 := (cells_heap hC3).2.2.1); (try have hG3 := (cells_heap hC3).2.2.2.1); (try have hC4 := hS.cell (i := 4) rfl); (try have hD4 := (cells_heap hC4).1); (try have hE4 := (cells_heap hC4).2.1); (try have hF4 := (cells_heap hC4).2.2.1); (try have hG4 := (cells_heap hC4).2.2.2.1); (try have hM0 := hS.map (i := 0) rfl); (try have hM1 := hS.map (i := 1) rfl); (try have hM2 := hS.map (i := 2) rfl); (try have hM3 := hS.map (i := 3) rfl); (try have hM4 := hS.map (i := 4) rfl))
   | (apply WL.lit tOk; (iterate 6 exact rfl); (first | exact rfl | kernel_rfl | (simp [Instr.fill, catCells]; done)); exact rfl; intro gb w' hb hge hc hx)
   | (apply WL.append1 (z := (x.1)) tOk encI_ok; (iterate 10 exact rfl); assumption; (exact extA); (first | exact rfl | (focus (simp only [List.length_set]; done)) | (focus (simp; done)) | (focus (simp [*]; done)) | omega | (focus (simp only [List.length_set]; omega))); (first | assumption | (refine Cells.ext ?_ (by assumption); exact extA)); exact rfl; exact rfl; (exact extA); (first | omega | (simp; omega) | (simp at *; omega)); intro a' cap' w' hO hX' hU hF; (first | replace hS := Sep.updRow (i := 0) rfl hU hO hF hS extA (by (first | exact Nat.le_refl _ | exact Below.size extA)) | replace hS := Sep.updRow (i := 1) rfl hU hO hF hS extA (by (first | exact Nat.le_refl _ | exact Below.size extA)) | replace hS := Sep.updRow (i := 2) rfl hU hO hF hS extA (by (first | exact Nat.le_refl _ | exact Below.size extA)) | replace hS := Sep.updRow (i := 3) rfl hU hO hF hS extA (by (first | exact Nat.le_refl _ | exact Below.size extA)) | replace hS := Sep.updRow (i := 4) rfl hU hO hF hS extA (by (first | exact Nat.le_refl _ | exact Below.size extA)) | replace hS := Sep.updRow (i := 5) rfl hU hO hF hS extA (by (first | exact Nat.le_refl _ | exact Below.size extA))); (try simp only [List.set_cons_zero, List.set_cons_succ] at hS); (try have hR0 := hS.row (i := 0) rfl); (try have hR1 := hS.row (i := 1) rfl); (try have hR2 := hS.row (i := 2) rfl); (try have hR3 := hS.row (i := 3) rfl); (try have hR4 := hS.row (i := 4) rfl); (try have hC0 := hS.cell (i := 0) rfl); (try have hD0 := (cells_heap hC0).1); (try have hE0 := (cells_heap hC0).2.1); (try have hF0 := (cells_heap hC0).2.2.1); (try have hG0 := (cells_heap hC0).2.2.2.1); (try have hC1 := hS.cell (i := 1) rfl); (try have hD1 := (cells_heap hC1).1); (try have hE1 := (cells_heap hC1).2.1); (try have hF1 := (cells_heap hC1).2.2.1); (try have hG1 := (cells_heap hC1).2.2.2.1); (try have hC2 := hS.cell (i := 2) rfl); (try have hD2 := (cells_heap hC2).1); (try have hE2 := (cells_heap hC2).2.1); (try have hF2 := (cells_heap hC2).2.2.1); (try have hG2 := (cells_heap hC2).2.2.2.1); (try have hC3 := hS.cell (i := 3) rfl); (try have hD3 := (cells_heap hC3).1); (try have hE3 := (cells_heap hC3).2.1); (try have hF3 := (cells_heap hC3).2.2.1); (try have hG3 := (cells_heap hC3).2.2.2.1); (try have hC4 := hS.cell (i := 4) rfl); (try have hD4 := (cells_heap hC4).1); (try have hE4 := (cells_heap hC4).2.1); (try have hF4 := (cells_heap hC4).2.2.1); (try have hG4 := (cells_heap hC4).2.2.2.1); (try have hM0 := hS.map (i := 0) rfl); (try have hM1 := hS.map (i := 1) rfl); (try have hM2 := hS.map (i := 2) rfl); (try have hM3 := hS.map (i := 3) rfl); (try have hM4 := hS.map (i := 4) rfl))
   | (show WL _ _ _ _ _ _ _; first | apply WL.nil | (refine WL.au (k := ?_)) | (apply WL.index tOk; (iterate 8 exact rfl); assumption; (exact extA); exact rfl; omega; assumption; intro b off h; have hcc := h; first | (obtain ⟨h1, h2, h3, h4, h5, h6, _⟩ := h) | (obtain ⟨h1, h2, h3, _⟩ := h) | (obtain ⟨h1, h2, _⟩ := h) | (obtain ⟨h1, _⟩ := h)))
   | (show Z _ _ _ _ _; first | apply Z.then_normal | apply Z.block_normal)
   | (show W _ _ _ _ _ _; first | apply W.seq | apply W.region | apply W.block | apply W.skip)
   | fail)
  exact Z.againO a' cap' ⟨by omega, extA, by rw [e1, ← List.append_assoc]; exact hS.drop 1⟩ ⟨rfl, by rw [e1, ← List.append_assoc]; exact rfl, rfl, rfl, rfl, trivial⟩
 obtain rfl : k = c.gates.2.2.length := by omega
 rw [List.take_length] at hR0 ⊢
 repeat' (first
  | (apply W.condKF; exact rfl; (focus (exact dec_false (by omega); done)))
  | (show WL _ _ _ _ _ _ _; first | apply WL.nil | (refine WL.au (k := ?_)))
  | (show Z _ _ _ _ _; first | apply Z.then_normal | apply Z.then_exit | apply Z.block_exit)
  | (show W _ _ _ _ _ _; first | apply W.seq | apply W.region | apply W.ret | apply W.exit)
  | fail)
 have hwc := Below.size hxc
 exact Z.body1 Try.results136 rfl fun m => ⟨Ext.at extA m, a, cp, rfl, (hR0.base hwc).ext ((Ext.refl _).at m)⟩
end Go.Proofs.Yteidpnpbfagaeaa
namespace Go.Proofs.Yteidpnpbfagaeaa
open Go Go.Lt Go.RowKit
set_option linter.unusedVariables false
set_option linter.unusedSimpArgs false
set_option maxRecDepth 20000

theorem few_sz {c : CirT} {m : Int} (hm : m ≤ 100000) (h : FewC c m) : SzC c 100000 := by
 obtain ⟨h1, h2, h3, h4, h5, h6, _, _⟩ := few_iff.1 h
 exact ⟨by omega, by omega, by omega, by omega, by omega, by omega⟩
set_option maxHeartbeats 16000000 in
theorem law11_Small (c : Circ) (m : Int) (w : World) (hC : CAt w c) (hm : m ≤ 100000) : Pure Try.prog 7 [c.val, .int .i64 m] w (.bool (dec (FewC c.t m ∧ c.max ≤ 300 ∧ GoodC' c.t))) := by
 by_cases f0 : FewC c.t m
 rotate_left
 ·refine Spec.of _ Try.func7 rfl Try.ntmps7 (by kernel_rfl) rfl ?_
  repeat' (first
   | (apply WL.box; (iterate 3 exact rfl); intro gb w' hb hge hc hx; have hcc := hc; (first | (obtain ⟨h1, h2, h3, _⟩ := hc) | (obtain ⟨h1, h2, _⟩ := hc)); (have hcells := hcc; obtain ⟨y0, _⟩ := hcc))
   | ((show WL _ _ _ (⟨_, .call ⟨.value (.func 49), _, _⟩, _, _, _, _⟩ :: _) _ _ _); apply WL.callP; (iterate 4 exact rfl); exact law11_Few c m _; intro w' hx)
   | (apply WL.gF; exact rfl; exact rfl; (focus (exact dec_false f0; done)))
   | (show WL _ _ _ _ _ _ _; first | apply WL.nil | (refine WL.au (k := ?_)) | (apply WL.guardF; exact rfl; exact rfl))
   | (show Z _ _ _ _ _; apply Z.then_normal)
   | (show W _ _ _ _ _ _; first | apply W.seq | apply W.region | apply W.ret)
   | fail)
  exact Z.body1 Try.results7 rfl fun q => ⟨congrArg Value.bool (by rw [dec_false (show ¬ (FewC c.t m ∧ c.max ≤ 300 ∧ GoodC' c.t) from fun h => f0 h.1)] <;> exact dec_false f0), Ext.at extA q⟩
 by_cases f1 : c.max ≤ 300
 rotate_left
 ·refine Spec.of _ Try.func7 rfl Try.ntmps7 (by kernel_rfl) rfl ?_
  repeat' (first
   | (apply WL.box; (iterate 3 exact rfl); intro gb w' hb hge hc hx; have hcc := hc; (first | (obtain ⟨h1, h2, h3, _⟩ := hc) | (obtain ⟨h1, h2, _⟩ := hc)); (have hcells := hcc; obtain ⟨y0, _⟩ := hcc))
   | ((show WL _ _ _ (⟨_, .call ⟨.value (.func 49), _, _⟩, _, _, _, _⟩ :: _) _ _ _); apply WL.callP; (iterate 4 exact rfl); exact law11_Few c m _; intro w' hx)
   | (apply WL.gT; exact rfl; exact rfl; (focus (first | exact dec_true f0 | exact dec_false f1; done)))
   | (apply WL.gF; exact rfl; exact rfl; (focus (first | exact dec_true f0 | exact dec_false f1; done)))
   | (show WL _ _ _ _ _ _ _; first | apply WL.nil | (refine WL.au (k := ?_)) | (apply WL.guardF; exact rfl; exact rfl))
   | (show Z _ _ _ _ _; apply Z.then_normal)
   | (show W _ _ _ _ _ _; first | apply W.seq | apply W.region | apply W.ret)
   | fail)
  exact Z.body1 Try.results7 rfl fun q => ⟨congrArg Value.bool (by rw [dec_false (show ¬ (FewC c.t m ∧ c.max ≤ 300 ∧ GoodC' c.t) from fun h => f1 h.2.1)] <;> exact dec_false f1), Ext.at extA q⟩
 have hz := few_sz hm f0
 refine Spec.of _ Try.func7 rfl Try.ntmps7 (by kernel_rfl) rfl ?_
 repeat' (first
  | (apply WL.box; (iterate 3 exact rfl); intro gb w' hb hge hc hx; have hcc := hc; (first | (obtain ⟨h1, h2, h3, _⟩ := hc) | (obtain ⟨h1, h2, _⟩ := hc)); (have hcells := hcc; obtain ⟨y0, _⟩ := hcc))
  | ((show WL _ _ _ (⟨_, .call ⟨.value (.func 49), _, _⟩, _, _, _, _⟩ :: _) _ _ _); apply WL.callP; (iterate 4 exact rfl); exact law11_Few c m _; intro w' hx)
  | ((show WL _ _ _ (⟨_, .call ⟨.value (.func 50), _, _⟩, _, _, _, _⟩ :: _) _ _ _); apply WL.callP; (iterate 4 exact rfl); exact ref11_Check c _ (hC.ext extA) hz; intro w' hx)
  | (apply WL.gT; exact rfl; exact rfl; (focus (first | exact dec_true f0 | exact dec_true f1; done)))
  | (show WL _ _ _ _ _ _ _; first | apply WL.nil | (refine WL.au (k := ?_)))
  | (show Z _ _ _ _ _; apply Z.then_normal)
  | (show W _ _ _ _ _ _; first | apply W.seq | apply W.region | apply W.ret)
  | fail)
 by_cases f2 : chkC c.t = 0
 ·exact Z.body1 Try.results7 rfl fun q => ⟨congrArg Value.bool (by rw [dec_true (show FewC c.t m ∧ c.max ≤ 300 ∧ GoodC' c.t from ⟨f0, f1, chkC_good.1 f2⟩)] <;> exact dec_true f2), Ext.at extA q⟩
 ·exact Z.body1 Try.results7 rfl fun q => ⟨congrArg Value.bool (by rw [dec_false (show ¬ (FewC c.t m ∧ c.max ≤ 300 ∧ GoodC' c.t) from fun h => f2 (chkC_good.2 h.2.2))] <;> exact dec_false f2), Ext.at extA q⟩
end Go.Proofs.Yteidpnpbfagaeaa
namespace Go.Lt
open Go.RowKit
set_option linter.unusedVariables false
set_option linter.unusedSimpArgs false

inductive Pr where
 | any : Pr
 | is : Value → Pr
 | ex (F : Value → World → Prop) (b : Value → Option Nat) (keep : ∀ x w w', F x w → Ext w w' → F x w') (lt : ∀ x w k, F x w → b x = some k → k < w.heap.size) : Pr
def Pr.holds : Pr → Value → World → Prop
 | .any, _, _ => True
 | .is v, x, _ => x = v
 | .ex F _ _ _, x, w => F x w
def Pr.bl : Pr → Value → Option Nat
 | .ex _ b _ _, x => b x
 | _, _ => none
theorem Pr.keeps : ∀ {p : Pr} {x : Value} {w w' : World}, p.holds x w → Ext w w' → p.holds x w'
 | .any, _, _, _, _, _ => trivial
 | .is _, _, _, _, h, _ => h
 | .ex _ _ k _, _, _, _, h, hx => k _ _ _ h hx
theorem Pr.lts : ∀ {p : Pr} {x : Value} {w : World} {k : Nat}, p.holds x w → p.bl x = some k → k < w.heap.size
 | .any, _, _, _, _, hb => by cases hb
 | .is _, _, _, _, _, hb => by cases hb
 | .ex _ _ _ l, _, _, _, h, hb => l _ _ _ h hb
def prAt : List Pr → Nat → Pr
 | [], _ => .any
 | p :: _, 0 => p
 | _ :: r, i + 1 => prAt r i

section
variable {P : Program} {N : Nat} {prs : List Pr} {pre : List Oper}

def need (prs : List Pr) (pre : List Oper) (w : World) (K : Env → List (Option Nat) → Prop) : List Nat → Env → List (Option Nat) → Prop
 | [], E, bs => K E bs
 | j :: r, E, bs =>
  match dstAt pre j with
  | none => need prs pre w K r E bs
  | some d =>
   match prAt prs j with
   | .any => need prs pre w K r E bs
   | .is v => need prs pre w K r ((d, v) :: E) bs
   | .ex F b _ _ => ∀ x, F x w → need prs pre w K r ((d, x) :: E) (b x :: bs)

def valO (pre : List Oper) (a : Act) (j : Nat) : Value :=
 match dstAt pre j with
 | some d => a.tmps.getD d undef
 | none => undef
def bsOf (prs : List Pr) (pre : List Oper) (a : Act) : List Nat → List (Option Nat) → List (Option Nat)
 | [], bs => bs
 | j :: r, bs =>
  match dstAt pre j with
  | none => bsOf prs pre a r bs
  | some d =>
   match prAt prs j with
   | .ex _ b _ _ => bsOf prs pre a r (b (valO pre a j) :: bs)
   | _ => bsOf prs pre a r bs

theorem Fit.cons {e : Env} {a : Act} (h : Fit N e a) {d : Nat} {v : Value} (hd : a.tmps[d]? = some v) : Fit N ((d, v) :: e) a := by
 refine ⟨h.size, h.defers, fun t u hu => ?_⟩
 rw [get_cons] at hu
 by_cases hdt : d = t
 ·subst hdt; rw [if_pos rfl] at hu; cases hu; exact hd
 ·rw [if_neg hdt] at hu; exact h.slots _ _ hu
theorem get_appE (e1 e2 : Env) (t : Nat) : get (e1 ++ e2) t = (get e1 t).or (get e2 t) := by
 induction e1 with
 | nil => simp [get]
 | cons p r ih =>
  obtain ⟨k, v⟩ := p
  rw [List.cons_append, get_cons, get_cons]
  by_cases hk : k = t
  ·rw [if_pos hk, if_pos hk]; rfl
  ·rw [if_neg hk, if_neg hk, ih]
def slotsE (a : Act) : Nat → Env
 | 0 => []
 | n + 1 => (n, a.tmps.getD n undef) :: slotsE a n
theorem slotsE_get {a : Act} : ∀ {n t : Nat}, t < n → get (slotsE a n) t = some (a.tmps.getD t undef)
 | n + 1, t, h => by
  rw [slotsE, get_cons]
  by_cases hk : n = t
  ·subst hk; rw [if_pos rfl]
  ·rw [if_neg hk]; exact slotsE_get (by omega)
theorem slotsE_lt {a : Act} : ∀ {n t : Nat} {v : Value}, get (slotsE a n) t = some v → t < n
 | 0, t, v, h => by cases h
 | n + 1, t, v, h => by
  rw [slotsE, get_cons] at h
  by_cases hk : n = t
  ·omega
  ·rw [if_neg hk] at h; have := slotsE_lt h; omega
theorem getD_some {a : Act} {t : Nat} (h : t < a.tmps.size) : a.tmps[t]? = some (a.tmps.getD t undef) := by
 simp [Array.getD_eq_getD_getElem?, h]
theorem Fit.all {e : Env} {a : Act} (h : Fit N e a) : Fit N (e ++ slotsE a N) a := by
 refine ⟨h.size, h.defers, fun t u hu => ?_⟩
 rw [get_appE] at hu
 cases hg : get e t with
 | some x => rw [hg] at hu; simp at hu; subst hu; exact h.slots _ _ hg
 | none =>
  rw [hg] at hu
  simp at hu
  have hlt := slotsE_lt hu
  rw [slotsE_get hlt] at hu
  cases hu
  exact getD_some (by rw [h.size]; exact hlt)

theorem need_out {w : World} {K : Env → List (Option Nat) → Prop} {a : Act} (hN : ∀ j d, dstAt pre j = some d → d < N) : ∀ (ds : List Nat) (E : Env) (bs : List (Option Nat)), need prs pre w K ds E bs → Fit N E a → (∀ j ∈ ds, (prAt prs j).holds (valO pre a j) w) →
  ∃ E', K E' (bsOf prs pre a ds bs) ∧ Fit N E' a ∧ ∀ t, get E t ≠ none → get E' t ≠ none
 | [], E, bs, h, hf, _ => ⟨E, h, hf, fun t ht => ht⟩
 | j :: r, E, bs, h, hf, hh => by
  have hr : ∀ k ∈ r, (prAt prs k).holds (valO pre a k) w := fun k hk => hh k (by simp [hk])
  unfold need at h
  unfold bsOf
  cases hd : dstAt pre j with
  | none => rw [hd] at h; exact need_out hN r E bs h hf hr
  | some d =>
   rw [hd] at h
   have hv : valO pre a j = a.tmps.getD d undef := by unfold valO; rw [hd]
   have hs : a.tmps[d]? = some (a.tmps.getD d undef) := getD_some (by rw [hf.size]; exact hN j d hd)
   have hj := hh j (by simp)
   cases hp : prAt prs j with
   | any => rw [hp] at h; exact need_out hN r E bs h hf hr
   | is v =>
    rw [hp] at h hj
    have hj' : valO pre a j = v := hj
    have hf' : Fit N ((d, v) :: E) a := hf.cons (by rw [hs, ← hv, hj'])
    obtain ⟨E', k1, k2, k3⟩ := need_out hN r _ bs h hf' hr
    refine ⟨E', k1, k2, fun t ht => k3 t ?_⟩
    rw [get_cons]; split
    ·simp
    ·exact ht
   | ex F b kp lt =>
    rw [hp] at h hj
    have hf' : Fit N ((d, valO pre a j) :: E) a := hf.cons (by rw [hs, ← hv])
    obtain ⟨E', k1, k2, k3⟩ := need_out hN r _ _ (h _ hj) hf' hr
    refine ⟨E', k1, k2, fun t ht => k3 t ?_⟩
    rw [get_cons]; split
    ·simp
    ·exact ht

abbrev Apart (bs : List (Option Nat)) : Prop := bs.Pairwise fun x y => x = none ∨ x ≠ y
theorem bsOf_apart {a : Act} : ∀ (ds : List Nat) (bs : List (Option Nat)), ds.Nodup → Apart bs → (∀ i ∈ ds, ∀ b ∈ bs, (prAt prs i).bl (valO pre a i) = none ∨ (prAt prs i).bl (valO pre a i) ≠ b) →
  (∀ i ∈ ds, ∀ j ∈ ds, i ≠ j → (prAt prs i).bl (valO pre a i) = none ∨ (prAt prs i).bl (valO pre a i) ≠ (prAt prs j).bl (valO pre a j)) → Apart (bsOf prs pre a ds bs)
 | [], bs, _, h, _, _ => h
 | j :: r, bs, hn, h, h1, h2 => by
  have hn' := List.nodup_cons.1 hn
  have e1 : ∀ i ∈ r, ∀ b ∈ bs, (prAt prs i).bl (valO pre a i) = none ∨ (prAt prs i).bl (valO pre a i) ≠ b := fun i hi => h1 i (by simp [hi])
  have e2 : ∀ i ∈ r, ∀ k ∈ r, i ≠ k → (prAt prs i).bl (valO pre a i) = none ∨ (prAt prs i).bl (valO pre a i) ≠ (prAt prs k).bl (valO pre a k) := fun i hi k hk => h2 i (by simp [hi]) k (by simp [hk])
  unfold bsOf
  cases hd : dstAt pre j with
  | none => exact bsOf_apart r bs hn'.2 h e1 e2
  | some d =>
   cases hp : prAt prs j with
   | any => exact bsOf_apart r bs hn'.2 h e1 e2
   | is v => exact bsOf_apart r bs hn'.2 h e1 e2
   | ex F b kp lt =>
    have hb : (prAt prs j).bl (valO pre a j) = b (valO pre a j) := by rw [hp]; rfl
    refine bsOf_apart r _ hn'.2 (List.pairwise_cons.2 ⟨fun y hy => ?_, h⟩) (fun i hi y hy => ?_) e2
    ·rw [← hb]; exact h1 j (by simp) y hy
    ·rcases List.mem_cons.1 hy with rfl | hy
     ·rw [← hb]; exact h2 i (by simp [hi]) j (by simp) (fun he => hn'.1 (he ▸ hi))
     ·exact e1 i hi y hy

def postI (N d : Nat) (p : Pr) (w : World) (E : Env) : Exit → Act → World → Prop := onlyN fun a w' => ∃ v, Fit N ((d, v) :: E) a ∧ Ext w w' ∧ p.holds v w' ∧ ∀ k, p.bl v = some k → w.heap.size ≤ k
structure NO (P : Program) (N : Nat) (pre : List Oper) (prs : List Pr) (o : Oper) (d : Nat) (p : Pr) (w : World) (ds : List Nat) (E : Env) : Prop where
 go : ∀ bs, need prs pre w (fun E' _ => WL P N pre.toArray [o] E' w (postI N d p w E')) ds E bs
def depsOf (o : Oper) : List Nat := o.after.toList.filterMap fun e => if Region.binds .any e then some e.on else none
structure OBL (P : Program) (N : Nat) (pre : List Oper) (prs : List Pr) (e : Env) (w : World) (i : Nat) (l : List Oper) : Prop where
 go : ∀ (k : Nat) (o : Oper), l[k]? = some o → ∃ d, o.dst = some d ∧ d < N ∧ ∀ w', Ext w w' → ∀ rest, NO P N pre prs o d (prAt prs (i + k)) w' (depsOf o) (e ++ rest)
theorem OBL.nil {e : Env} {w : World} {i : Nat} : OBL P N pre prs e w i [] := ⟨fun k o h => by simp at h⟩
theorem OBL.cons {e : Env} {w : World} {i d : Nat} {o : Oper} {r : List Oper} {p : Pr} {ds : List Nat} (hd : o.dst = some d) (hN : Nat.blt d N = true) (hp : prAt prs i = p) (hds : depsOf o = ds)
  (h : ∀ w', Ext w w' → ∀ rest, NO P N pre prs o d p w' ds (e ++ rest)) (k : OBL P N pre prs e w (i + 1) r) : OBL P N pre prs e w i (o :: r) := by
 refine ⟨fun j o' hj => ?_⟩
 cases j with
 | zero => simp at hj; subst hj; exact ⟨d, hd, by simpa [Nat.blt_eq] using hN, by rw [Nat.add_zero, hp, hds]; exact h⟩
 | succ j =>
  have := k.go j o' (by simpa using hj)
  rwa [show i + 1 + j = i + (j + 1) by omega] at this
theorem NO.nil {o : Oper} {d : Nat} {p : Pr} {w : World} {E : Env} (h : WL P N pre.toArray [o] E w (postI N d p w E)) : NO P N pre prs o d p w [] E := ⟨fun _ => h⟩
theorem NO.any {o : Oper} {d j : Nat} {p : Pr} {w : World} {E : Env} {r : List Nat} (hp : prAt prs j = .any) (h : NO P N pre prs o d p w r E) : NO P N pre prs o d p w (j :: r) E := ⟨fun bs => by
 unfold need
 cases dstAt pre j with
 | none => exact h.go bs
 | some d => dsimp only; rw [hp]; exact h.go bs⟩
theorem NO.is {o : Oper} {d dj j : Nat} {p : Pr} {w : World} {E : Env} {v : Value} {r : List Nat} (hd : dstAt pre j = some dj) (hp : prAt prs j = .is v) (h : NO P N pre prs o d p w r ((dj, v) :: E)) : NO P N pre prs o d p w (j :: r) E := ⟨fun bs => by
 unfold need
 rw [hd]; dsimp only; rw [hp]; exact h.go bs⟩
theorem NO.ex {o : Oper} {d dj j : Nat} {p : Pr} {w : World} {E : Env} {F : Value → World → Prop} {b : Value → Option Nat} {kp : ∀ x w w', F x w → Ext w w' → F x w'} {lt : ∀ x w k, F x w → b x = some k → k < w.heap.size} {r : List Nat} (hd : dstAt pre j = some dj) (hp : prAt prs j = .ex F b kp lt)
  (h : ∀ x, F x w → NO P N pre prs o d p w r ((dj, x) :: E)) : NO P N pre prs o d p w (j :: r) E := ⟨fun bs => by
 unfold need
 rw [hd]; dsimp only; rw [hp]; exact fun x hx => (h x hx).go _⟩

def dstsB (e : Env) : List Oper → Bool
 | [] => true
 | o :: r => (match o.dst with
  | some d => (match get e d with | some _ => false | none => true) && r.all (fun q => match q.dst with | some d' => !Nat.beq d d' | none => true)
  | none => false) && dstsB e r
theorem dstsB_spec {e : Env} : ∀ {l : List Oper}, dstsB e l = true → (∀ j d, dstAt l j = some d → get e d = none) ∧ ∀ i j d d', dstAt l i = some d → dstAt l j = some d' → i ≠ j → d ≠ d'
  | [], _ => ⟨fun j d h => (by cases h), fun i j d d' h => (by cases h)⟩
  | o :: r, h => by
    simp only [dstsB, Bool.and_eq_true] at h
    obtain ⟨h1, h2⟩ := h
    obtain ⟨k1, k2⟩ := dstsB_spec h2
    cases hd : o.dst with
    | none => rw [hd] at h1; cases h1
    | some d0 =>
      rw [hd] at h1
      simp only [Bool.and_eq_true] at h1
      have hno : get e d0 = none := by
        cases hg : get e d0 with
        | none => rfl
        | some x => rw [hg] at h1; exact absurd h1.1 (by simp)
      have hall : ∀ j d, dstAt r j = some d → d0 ≠ d := by
        intro j d hj
        rw [← dstAt_eq] at hj
        cases ho : r.toArray[j]? with
        | none => rw [ho] at hj; cases hj
        | some q =>
          rw [ho] at hj
          simp only [Option.bind_some] at hj
          have hq : q ∈ r := by have : r[j]? = some q := by simpa using ho
                                exact List.mem_of_getElem? this
          have := List.all_eq_true.1 h1.2 q hq
          rw [hj] at this
          intro he
          subst he
          simp at this
      refine ⟨fun j d hj => ?_, fun i j d d' hi hj hne => ?_⟩
      · cases j with
        | zero => simp only [dstAt, hd] at hj; cases hj; exact hno
        | succ j => exact k1 j d hj
      · cases i with
        | zero =>
          simp only [dstAt, hd] at hi; cases hi
          cases j with
          | zero => exact absurd rfl hne
          | succ j => exact hall j d' hj
        | succ i =>
          cases j with
          | zero => simp only [dstAt, hd] at hj; cases hj; exact fun he => hall i d hi he.symm
          | succ j => exact k2 i j d d' hi hj (by omega)

structure InvI (N : Nat) (prs : List Pr) (pre : List Oper) (e : Env) (w0 : World) (L : Array Bool) (a : Act) (w : World) : Prop where
 ext : Ext w0 w
 fit : Fit N e a
 holds : ∀ i, i < pre.length → L.getD i false = true → (prAt prs i).holds (valO pre a i) w
 apart : ∀ i j, i < pre.length → j < pre.length → L.getD i false = true → L.getD j false = true → i ≠ j → (prAt prs i).bl (valO pre a i) = none ∨ (prAt prs i).bl (valO pre a i) ≠ (prAt prs j).bl (valO pre a j)

theorem dstAt_of {l : List Oper} {i d : Nat} {o : Oper} (h : l[i]? = some o) (hd : o.dst = some d) : dstAt l i = some d := by
 rw [← dstAt_eq, show l.toArray[i]? = some o by simpa using h]; exact hd

theorem wpAny_inv {e : Env} {w0 : World} {Q' : Exit → Act → World → Prop} (hO : OBL P N pre prs e w0 0 pre) (hlow : lowB pre.toArray pre.length = true) (hd : dstsB e pre = true)
  (hK : ∀ L a w, InvI N prs pre e w0 L a w → (∀ i, i < pre.length → L.getD i false = true) → Q' .normal a w) : ∀ (f : Nat) (L : Array Bool) (a : Act) (w : World), L.size = pre.length → todo L pre.length = f → InvI N prs pre e w0 L a w → wpAny P .any pre.toArray Q' f L a w := by
 obtain ⟨hd1, hd2⟩ := dstsB_spec hd
 have hN : ∀ j d, dstAt pre j = some d → d < N := fun j d hj => by
  rw [← dstAt_eq] at hj
  cases ho : pre.toArray[j]? with
  | none => rw [ho] at hj; cases hj
  | some q =>
   rw [ho] at hj
   simp only [Option.bind_some] at hj
   obtain ⟨d', h1, h2, _⟩ := hO.go j q (by simpa using ho)
   rw [h1] at hj; cases hj; exact h2
 intro f
 induction f with
 | zero =>
  intro L a w hsz ht hI
  refine ⟨?_, hK L a w hI fun i hi => todo_zero ht hi⟩
  rw [List.eq_nil_iff_forall_not_mem]
  intro i hi
  have h1 := (mem_ready.1 hi).1
  by_cases hin : i < pre.length
  ·have := todo_zero ht hin
   simp [Array.getD_eq_getD_getElem?, show i < L.size by omega] at h1 this
   rw [this] at h1; cases h1
  ·simp [Array.getD_eq_getD_getElem?, Array.getElem?_eq_none (show L.size ≤ i by omega)] at h1
 | succ f ih =>
  intro L a w hsz ht hI
  have hun : ∃ i, i < pre.length ∧ L.getD i false = false ∧ ∀ j, j < i → L.getD j false = true := by
   by_cases hall : ∀ i, i < pre.length → L.getD i false = true
   ·exfalso
    have : todo L pre.length = 0 := List.countP_eq_zero.2 (fun i hi => by simp [hall i (List.mem_range.1 hi)])
    omega
   ·simp only [Classical.not_forall] at hall
    have hex : ∃ i, i < pre.length ∧ L.getD i false = false := by
     obtain ⟨i, hi, hf⟩ := hall
     exact ⟨i, hi, by simpa using hf⟩
    obtain ⟨i, ⟨hi, hf⟩, hmin⟩ := exists_least (p := fun i => i < pre.length ∧ L.getD i false = false) hex
    refine ⟨i, hi, hf, fun j hj => ?_⟩
    cases hb : L.getD j false with
    | true => rfl
    | false => have := hmin j ⟨by omega, hb⟩; omega
  obtain ⟨i0, hi0, hf0, hmin0⟩ := hun
  have hi0r : i0 ∈ Region.ready .any pre.toArray L := by
   obtain ⟨o, ho, hedge, _⟩ := lowB_spec hlow hi0
   exact mem_ready.2 ⟨getD_in (by omega) hf0, o, ho, fun e he hb => hmin0 _ (hedge e he hb)⟩
  refine ⟨fun h0 => (by rw [h0] at hi0r; cases hi0r), fun i hir => ?_⟩
  obtain ⟨h1, o, ho, hdeps⟩ := mem_ready.1 hir
  have hin : i < pre.length := by have := (Array.getElem?_eq_some_iff.1 ho).1; simpa using this
  have hfi : L.getD i false = false := getD_both h1
  have ho' : pre[i]? = some o := by simpa using ho
  obtain ⟨d, hod, hdN, hno⟩ := hO.go i o ho'
  rw [Nat.zero_add] at hno
  have hdi : dstAt pre i = some d := dstAt_of ho' hod
  obtain ⟨E', k1, k2, k3⟩ := need_out (K := fun E' _ => WL P N pre.toArray [o] E' w (postI N d (prAt prs i) w E')) hN (depsOf o) _ [] ((hno w hI.ext (slotsE a N)).go []) hI.fit.all (fun j hj => by
   obtain ⟨ed, hed, hj'⟩ := List.mem_filterMap.1 hj
   split at hj'
   ·rename_i hb
    cases hj'
    have hl := hdeps ed (by simpa using hed) hb
    refine hI.holds _ ?_ hl
    refine Classical.byContradiction fun hge => ?_
    simp [Array.getD_eq_getD_getElem?, Array.getElem?_eq_none (show L.size ≤ ed.on by omega)] at hl
   ·cases hj')
  have hfull : ∀ t, t < N → ∃ u, get E' t = some u := fun t ht => by
   have := k3 t (by rw [get_appE, slotsE_get ht]; cases get e t <;> simp)
   cases hg : get E' t with
   | none => exact absurd hg this
   | some u => exact ⟨u, rfl⟩
  refine wpOp_of_list ho (k1.go a w.drawn k2) _ fun a' w' h' => ?_
  have h'' : ∃ v, Fit N ((d, v) :: E') a' ∧ Ext w w' ∧ (prAt prs i).holds v w' ∧ ∀ k, (prAt prs i).bl v = some k → w.heap.size ≤ k := h'
  obtain ⟨v, g1, g2, g3, g4⟩ := h''
  have same : ∀ t, t ≠ d → t < N → a'.tmps[t]? = a.tmps[t]? := fun t htd ht => by
   obtain ⟨u, hu⟩ := hfull t ht
   rw [k2.slots t u hu]
   exact g1.slots t u (by rw [get_cons, if_neg (fun h => htd h.symm)]; exact hu)
  have hvi : valO pre a' i = v := by
   unfold valO
   rw [hdi]
   have := g1.slots d v (by rw [get_cons, if_pos rfl])
   simp [Array.getD_eq_getD_getElem?, this]
  have hvj : ∀ j, j ≠ i → valO pre a' j = valO pre a j := fun j hj => by
   unfold valO
   cases hdj : dstAt pre j with
   | none => rfl
   | some d' =>
    have := same d' (hd2 j i d' d hdj hdi hj) (hN j d' hdj)
    simp [Array.getD_eq_getD_getElem?, this]
  have hLi : ∀ j, j ≠ i → (L.setIfInBounds i true).getD j false = L.getD j false := fun j hj => getD_set_ne false (Ne.symm hj)
  refine ih _ a' w' (by simp [hsz]) (by have := todo_set (listed := L) (by omega) hfi pre.length hin; omega) ⟨hI.ext.trans g2, ⟨g1.size, g1.defers, fun t u hu => ?_⟩, fun j hj hl => ?_, fun j k hj hk hlj hlk hjk => ?_⟩
  ·have htd : t ≠ d := fun h => by rw [h, hd1 i d hdi] at hu; cases hu
   have hat := hI.fit.slots t u hu
   have htN : t < N := by have := (Array.getElem?_eq_some_iff.1 hat).1; rw [hI.fit.size] at this; exact this
   rw [same t htd htN, hat]
  ·by_cases hji : j = i
   ·subst hji; rw [hvi]; exact g3
   ·rw [hLi j hji] at hl; rw [hvj j hji]; exact Pr.keeps (hI.holds j hj hl) g2
  ·by_cases hji : j = i
   ·have hki : k ≠ i := fun h => hjk (by rw [hji, h])
    rw [hLi k hki] at hlk
    rw [hji, hvi, hvj k hki]
    cases hb : (prAt prs i).bl v with
    | none => exact .inl rfl
    | some q =>
     refine .inr fun he => ?_
     have h5 := g4 q hb
     have h6 := Pr.lts (hI.holds k hk hlk) he.symm
     omega
   ·rw [hLi j hji] at hlj
    rw [hvj j hji]
    by_cases hki : k = i
    ·rw [hki, hvi]
     cases hb : (prAt prs j).bl (valO pre a j) with
     | none => exact .inl rfl
     | some q =>
      refine .inr fun he => ?_
      have h5 := g4 q he.symm
      have h6 := Pr.lts (hI.holds j hj hlj) hb
      omega
    ·rw [hLi k hki] at hlk
     rw [hvj k hki]
     exact hI.apart j k hj hk hlj hlk hjk

structure NF (P : Program) (N : Nat) (pre : List Oper) (prs : List Pr) (w : World) (K : Env → Prop) (ds : List Nat) (E : Env) (bs : List (Option Nat)) : Prop where
 go : need prs pre w (fun E' bs' => Apart bs' → K E') ds E bs
theorem NF.any {w : World} {K : Env → Prop} {E : Env} {bs : List (Option Nat)} {j : Nat} {r : List Nat} (hp : prAt prs j = .any) (h : NF P N pre prs w K r E bs) : NF P N pre prs w K (j :: r) E bs := ⟨by
 unfold need
 cases dstAt pre j with
 | none => exact h.go
 | some d => dsimp only; rw [hp]; exact h.go⟩
theorem NF.is {w : World} {K : Env → Prop} {E : Env} {bs : List (Option Nat)} {j dj : Nat} {v : Value} {r : List Nat} (hd : dstAt pre j = some dj) (hp : prAt prs j = .is v) (h : NF P N pre prs w K r ((dj, v) :: E) bs) : NF P N pre prs w K (j :: r) E bs := ⟨by
 unfold need
 rw [hd]; dsimp only; rw [hp]; exact h.go⟩
theorem NF.ex {w : World} {K : Env → Prop} {E : Env} {bs : List (Option Nat)} {j dj : Nat} {F : Value → World → Prop} {b : Value → Option Nat} {kp : ∀ x w w', F x w → Ext w w' → F x w'} {lt : ∀ x w k, F x w → b x = some k → k < w.heap.size} {r : List Nat} (hd : dstAt pre j = some dj) (hp : prAt prs j = .ex F b kp lt)
  (h : ∀ x, F x w → NF P N pre prs w K r ((dj, x) :: E) (b x :: bs)) : NF P N pre prs w K (j :: r) E bs := ⟨by
 unfold need
 rw [hd]; dsimp only; rw [hp]; exact fun x hx => (h x hx).go⟩
theorem NF.nilT {l tail : List Oper} {w : World} {Q : Exit → Act → World → Prop} {E : Env} {bs : List (Option Nat)} (h : Apart bs → WL P N l.toArray tail E w Q) : NF P N pre prs w (fun E' => WL P N l.toArray tail E' w Q) [] E bs := ⟨h⟩
def uptoL : Nat → List Nat
 | 0 => []
 | n + 1 => uptoL n ++ [n]
theorem mem_uptoL : ∀ {n i : Nat}, i ∈ uptoL n ↔ i < n
 | 0, i => by simp [uptoL]
 | n + 1, i => by simp only [uptoL, List.mem_append, mem_uptoL, List.mem_singleton]; omega
theorem uptoL_nodup : ∀ n : Nat, (uptoL n).Nodup
 | 0 => by simp [uptoL]
 | n + 1 => by
  simp only [uptoL]
  rw [List.nodup_append]
  exact ⟨uptoL_nodup n, by simp, fun x hx y hy => by have := mem_uptoL.1 hx; simp at hy; omega⟩

theorem inv_done {e : Env} {w0 w : World} {L : Array Bool} {a : Act} {K : Env → Prop} (hN : ∀ j d, dstAt pre j = some d → d < N) (hI : InvI N prs pre e w0 L a w) (hall : ∀ i, i < pre.length → L.getD i false = true) (h : NF P N pre prs w K (uptoL pre.length) e []) : ∃ E', K E' ∧ Fit N E' a := by
 obtain ⟨E', k1, k2, _⟩ := need_out hN _ _ _ h.go hI.fit (fun j hj => hI.holds j (mem_uptoL.1 hj) (hall j (mem_uptoL.1 hj)))
 exact ⟨E', k1 (bsOf_apart _ _ (uptoL_nodup _) List.Pairwise.nil (fun i _ b hb => by cases hb) fun i hi j hj hne => hI.apart i j (mem_uptoL.1 hi) (mem_uptoL.1 hj) (hall i (mem_uptoL.1 hi)) (hall j (mem_uptoL.1 hj)) hne), k2⟩
theorem InvI.start {e : Env} {w0 : World} {a : Act} {m n : Nat} (hf : Fit N e a) : InvI N prs pre e w0 (Array.replicate n false) a (at' w0 m) :=
 ⟨(Ext.refl _).at m, hf, fun i _ h => (by rw [getD_replicate_false] at h; cases h), fun i j _ _ h => (by rw [getD_replicate_false] at h; cases h)⟩
theorem OBL.lt {e : Env} {w0 : World} (hO : OBL P N pre prs e w0 0 pre) : ∀ j d, dstAt pre j = some d → d < N := fun j d hj => by
 rw [← dstAt_eq] at hj
 cases ho : pre.toArray[j]? with
 | none => rw [ho] at hj; cases hj
 | some q =>
  rw [ho] at hj
  simp only [Option.bind_some] at hj
  obtain ⟨d', h1, h2, _⟩ := hO.go j q (by simpa using ho)
  rw [h1] at hj; cases hj; exact h2

theorem todo_start (n m : Nat) : todo (Array.replicate m false) n = n := by
 unfold todo
 rw [List.countP_eq_length.2 (fun i _ => by rw [getD_replicate_false]; rfl)]
 simp

theorem W.regionI {id : Nat} {l tail : List Oper} {e : Env} {w : World} {Q : Exit → Act → World → Prop} {ds : List Nat} (n : Nat) (prs : List Pr) (hm : P.follows .mixedOrders = true) (hB : Region.lexTailB .any l.toArray n = true) (hc : cutAt n l = some (pre, tail))
  (hlow : lowB l.toArray n = true) (hl : lowB pre.toArray n = true) (hd : dstsB e pre = true) (hds : uptoL n = ds)
  (hO : OBL P N pre prs e w 0 pre) (k : ∀ w', Ext w w' → NF P N pre prs w' (fun E' => WL P N l.toArray tail E' w' Q) ds e []) : W P N (.region id l.toArray true) e w Q := by
 refine ⟨fun a m hf => ?_⟩
 subst hds
 obtain ⟨h1, h2⟩ := cutAt_eq hc
 simp only [Region.lexTailB, Bool.and_eq_true, decide_eq_true_eq] at hB
 obtain ⟨⟨⟨⟨hsel, hn⟩, hs⟩, hcb⟩, hlex⟩ := hB
 have hn' : n < l.length := by simpa using hn
 have hpl : pre.length = n := by rw [← h1]; simp; omega
 have htl : tail.length = l.length - n := by rw [← h2]; simp
 have hH : ∀ j, j < n → pre.toArray[j]? = l.toArray[j]? := fun j hj => by rw [← h1]; simp [hj]
 refine wp_region_any hm ?_
 have hany : wpAny P .any pre.toArray (fun x a' w' => match x with | .normal => wpList P l.toArray Q tail a' w' | _ => False) n (Array.replicate n false) a (at' w (m + 1)) := by
  have := wpAny_inv (P := P) (Q' := fun x a' w' => match x with | .normal => wpList P l.toArray Q tail a' w' | _ => False) hO (by rw [hpl]; exact hl) hd (fun L a w' hI hall => by
   obtain ⟨E', h1, h2⟩ := inv_done hO.lt hI hall (by rw [hpl]; exact k w' hI.ext)
   exact h1.go a w'.drawn h2) n (Array.replicate n false) a (at' w (m + 1)) (by simp [hpl]) (by rw [hpl]; exact todo_start _ _) (InvI.start hf)
  exact this
 have inv0 : HeadInv .any l.toArray n (Array.replicate l.toArray.size false) :=
  ⟨by simp, fun j oj _ hl => (by rw [getD_replicate_false] at hl; cases hl), fun t _ ht => getD_in (by simpa using ht) (getD_replicate_false _ _)⟩
 have key := sim (P := P) (g := l.length - n) (Q := Q) hH (by simpa using hpl) hn hs hcb hlow (fun listed a' w' hsz hfull hrest hk => ?_) (fun x a' w' hx hk => ?_) n (Array.replicate n false) (Array.replicate l.toArray.size false) a (at' w (m + 1)) (by simp) (by simp)
  (fun j hj => by rw [getD_replicate_false, getD_replicate_false]) inv0 (todo_start _ _) hany
 ·rw [show n + (l.length - n) = l.toArray.size by simp; omega] at key
  exact key
 ·have hseq : Region.seqB .any l.toArray (l.length - n) n listed = true := by
   have : ∀ (f k : Nat) (L : Array Bool), L.size = l.toArray.size → k + f = n → (∀ j, j < k → L.getD j false = true) → (∀ j, k ≤ j → L.getD j false = false) → Region.lexHead .any l.toArray (l.length - n) f k L = true → ∃ L', L'.size = l.toArray.size ∧ (∀ j, j < n → L'.getD j false = true) ∧ (∀ j, n ≤ j → L'.getD j false = false) ∧ Region.seqB .any l.toArray (l.length - n) n L' = true := by
    intro f
    induction f with
    | zero =>
     intro k L h1 h2 h3 h4 h5
     have hkn : k = n := by omega
     rw [hkn] at h3 h4 h5
     exact ⟨L, h1, h3, h4, h5⟩
    | succ f ih =>
     intro k L h1 h2 h3 h4 h5
     simp only [Region.lexHead, Bool.and_eq_true] at h5
     refine ih (k + 1) _ (by simpa using h1) (by omega) (fun j hj => ?_) (fun j hj => ?_) h5.2
     ·by_cases hjk : k = j
      ·subst hjk
       simp [Array.getD_eq_getD_getElem?, Array.getElem?_setIfInBounds, show k < L.size by rw [h1]; simp; omega]
      ·have := h3 j (by omega)
       simpa [Array.getD_eq_getD_getElem?, Array.getElem?_setIfInBounds, hjk] using this
     ·have := h4 j (by omega)
      simpa [Array.getD_eq_getD_getElem?, Array.getElem?_setIfInBounds, show k ≠ j by omega] using this
   obtain ⟨L', g1, g2, g3, g4⟩ := this n 0 (Array.replicate l.toArray.size false) (by simp) (by omega) (fun j hj => by omega) (fun j _ => getD_replicate_false _ _) (by simpa using hlex)
   have : listed = L' := by
    apply Array.ext
    ·rw [hsz, g1]
    ·intro i hi1 hi2
     rcases Nat.lt_or_ge i n with hlt | hge
     ·have e1 := hfull i hlt
      have e2 := g2 i hlt
      simp [Array.getD_eq_getD_getElem?, hi1] at e1
      simp [Array.getD_eq_getD_getElem?, hi2] at e2
      rw [e1, e2]
     ·have e1 := hrest i hge
      have e2 := g3 i hge
      simp [Array.getD_eq_getD_getElem?, hi1] at e1
      simp [Array.getD_eq_getD_getElem?, hi2] at e2
      rw [e1, e2]
   rw [this]; exact g4
  have := wpAny_of_seq (P := P) (md := .any) (Q' := Q) tail n listed a' w' (fun j => by rw [← h2]; simp [List.getElem?_drop]) (by rw [htl]; exact hseq) hk
  rwa [htl] at this
 ·cases x with
  | normal => exact absurd rfl hx
  | _ => exact hk.elim

theorem Z.invIs {d : Nat} {v : Value} {w w' : World} {E : Env} (hx : Ext w w') : Z N (postI N d (.is v) w E) .normal ((d, v) :: E) w' :=
 ⟨fun a m hf => ⟨v, hf, hx.at m, rfl, fun k hk => by cases hk⟩⟩
theorem Z.invEx {d : Nat} {v : Value} {w w' : World} {E : Env} {F : Value → World → Prop} {b : Value → Option Nat} {kp : ∀ x w w', F x w → Ext w w' → F x w'} {lt : ∀ x w k, F x w → b x = some k → k < w.heap.size}
  (hx : Ext w w') (hF : F v w') (hb : ∀ k, b v = some k → w.heap.size ≤ k) : Z N (postI N d (.ex F b kp lt) w E) .normal ((d, v) :: E) w' :=
 ⟨fun a m hf => ⟨v, hf, hx.at m, kp _ _ _ hF ((Ext.refl w').at m), hb⟩⟩
end

def isLit (el B : Nat) (x : Value) (w : World) : Prop := ∃ gb, x = .slice (some ⟨gb, 0, none⟩) 0 0 ∧ w.heap[gb]? = some (.cells #[] el (0, 0)) ∧ B ≤ gb
def prLit (el B : Nat) : Pr := .ex (isLit el B) (fun _ => none) (fun x w w' ⟨gb, h1, h2, h3⟩ hx => ⟨gb, h1, by rw [hx.block gb (heap_lt h2)]; exact h2, h3⟩) (fun x w k _ h => by cases h)
def sliceBlk : Value → Option Nat
 | .slice a _ _ => blk a
 | _ => none
def isRow {α : Type} (s : Nat) (enc : α → List Value) (el B : Nat) (l : List α) (x : Value) (w : World) : Prop := ∃ a cap, x = .slice a l.length cap ∧ Own s enc el B w a cap l
open Classical in
noncomputable def prRow {α : Type} (s : Nat) (enc : α → List Value) (el B : Nat) (l : List α) : Pr := .ex (isRow s enc el B l) (fun x => if l = [] then none else sliceBlk x)
 (fun x w w' ⟨a, cap, h1, h2⟩ hx => ⟨a, cap, h1, h2.ext hx⟩) (fun x w k ⟨a, cap, h1, h2⟩ h => by
  subst h1
  by_cases hl : l = []
  ·rw [if_pos hl] at h; cases h
  ·rw [if_neg hl] at h; exact (h2.blk_lt k h).2)
section
variable {N : Nat}
theorem Z.invLit {d el B gb : Nat} {w w' : World} {E : Env} (hx : Ext w w') (hb : w'.heap[gb]? = some (.cells #[] el (0, 0))) (hge : B ≤ gb) : Z N (postI N d (prLit el B) w E) .normal ((d, .slice (some ⟨gb, 0, none⟩) 0 0) :: E) w' :=
 Z.invEx hx ⟨gb, rfl, hb, hge⟩ (fun k h => by cases h)
theorem Z.invRow {α : Type} {s : Nat} {enc : α → List Value} {d el B cap : Nat} {l : List α} {a : Option Addr} {w w' : World} {E : Env} (hx : Ext w w') (hO : Own s enc el B w' a cap l) (hf : l = [] ∨ ∀ k, blk a = some k → w.heap.size ≤ k) :
  Z N (postI N d (prRow s enc el B l) w E) .normal ((d, .slice a l.length cap) :: E) w' :=
 Z.invEx hx ⟨a, cap, rfl, hO⟩ (fun k h => by
  by_cases hl : l = []
  ·rw [if_pos hl] at h; cases h
  ·rw [if_neg hl] at h; exact (hf.resolve_left hl) k h)
end

theorem row_cells {α : Type} {s : Nat} {enc : α → List Value} {w : World} {ad : Addr} {ys : List α} (hE : Enc s enc) (hr : Row s enc w (some ad) ys) : ∀ i u, (ys.flatMap enc)[i]? = some u → w.cell? (ad.add i) = some u := by
 intro i u hu
 have hpos := hE.pos
 have hlt : i < ys.length * s := by have := (List.getElem?_eq_some_iff.1 hu).1; rwa [length_flatMap' hE.len] at this
 have hdiv : i / s < ys.length := by rw [Nat.div_lt_iff_lt_mul hpos]; exact hlt
 have hyy : ys[i / s]? = some ys[i / s] := by simp [hdiv]
 obtain ⟨bb, off, hbb, hc⟩ := hr.elem _ _ hyy
 simp only [Option.some.injEq] at hbb
 subst hbb
 have hmod : i % s < s := Nat.mod_lt _ hpos
 have h1 := getElem?_flatMap' hE.len ys (i / s) (i % s) _ hyy hmod
 have h2 : i / s * s + i % s = i := by rw [Nat.mul_comm]; exact Nat.div_add_mod i s
 rw [h2, hu] at h1
 have key : ∀ (L : List Value) (o jj : Nat) (u : Value), Cells w bb o L → L[jj]? = some u → w.cell? ⟨bb, o + jj, none⟩ = some u := by
  intro L
  induction L with
  | nil => intro o jj u _ h; simp at h
  | cons v r ih =>
   intro o jj u hcc h
   cases jj with
   | zero => simp only [List.getElem?_cons_zero, Option.some.injEq] at h; subst h; exact hcc.1
   | succ jj => have := ih (o + 1) jj u hcc.2 (by simpa using h); rwa [show o + 1 + jj = o + (jj + 1) by omega] at this
 have := key _ _ _ u hc h1.symm
 rw [Addr_add_none]
 rw [show off + i / s * s + i % s = off + i by omega] at this
 exact this

section rules
variable {P : Program} {N : Nat} {e : Env} {w : World} {Q : Exit → Act → World → Prop} {ops : List Oper} {l : List Oper} {T : Tab}
 {d : Nat} {tt : TypeId} {ps : String} {af : Array Edge} {g : Option (Nat × Bool)} {t : TypeId} {α : Type} {s : Nat} {enc : α → List Value} {B : Nat} {ti ei : TI} {el : TypeId}
theorem WL.append0 {x y : Operand} {b : Option Addr} {gb m c : Nat} {ys : List α} {wo w1 : World} (hT : OkTab P T) (hE : Enc s enc) (hg : gate ops e g = some true) (hd : Nat.blt d N = true)
  (hx : ev e x = some (.slice (some ⟨gb, 0, none⟩) 0 0)) (hy : ev e y = some (.slice b m c)) (ht : tget T t = some ti) (htd : ti.desc = .slice el) (he : tget T el = some ei) (hs : ei.size = s) (hz : ei.zero.cells.size = s) (hby : Nat.ble ei.bytes 1024 = true)
  (ho : wo.heap[gb]? = some (.cells #[] el (0, 0))) (hB : B ≤ gb) (hwo : Ext wo w) (hr : Row s enc w1 b ys) (hw1 : Ext w1 w) (hm : ys.length = m) (hmc : b = none → c = 0) (hbd : ys.length ≤ 137438953472)
  (k : ∀ a' cap' w', Own s enc el B w' a' cap' ys → Ext w w' → (ys = [] ∨ ∀ k, blk a' = some k → w.heap.size ≤ k) → WL P N ops.toArray l ((d, .slice a' ys.length cap') :: e) w' Q) :
  WL P N ops.toArray (⟨some d, .call ⟨.builtin .append, ⟨[x, y]⟩, ⟨[t, t]⟩⟩, tt, ps, af, g⟩ :: l) e w Q := by
 have hb' := Nat.le_of_ble_eq_true hby
 have hgw : w.heap[gb]? = some (.cells #[] el (0, 0)) := by rw [hwo.block gb (heap_lt ho)]; exact ho
 have hgl := heap_lt hgw
 have hO0 : Own s enc el B w (some ⟨gb, 0, none⟩) 0 ([] : List α) := Own.of_block0 hgw hB
 obtain ⟨j, hj1, hj2, hj3, hj4⟩ := (hT.at he).info
 have hti := (hT.at ht).1
 rw [htd] at hti
 subst hm
 by_cases hy0 : ys = []
 ·subst hy0
  refine WL.eff (v := .slice (some ⟨gb, 0, none⟩) 0 0) (w' := fun m => at' w m) hg hd ?_ (fun m => ?_)
  ·intro ρ hρ m
   simp only [execOp, resolve, invoke, builtin, Sem.run_bind, Sem.run_pure, Result.andThen_ok, List.map_toArray, List.map_cons, List.map_nil, hρ _ _ hx, hρ _ _ hy]
   by_cases hb : b = none
   ·subst hb
    obtain rfl := hmc rfl
    have := run_append_nothing (P := P) (tt := tt) (n := 0) hT ht htd he (w' := at' w m) (xs := ([] : List α)) hO0 hs
    simp only [List.length_nil] at this ⊢
    rw [this]; rfl
   ·obtain ⟨ad, rfl⟩ := Option.ne_none_iff_exists'.1 hb
    have := run_append_room (P := P) (at' w m) t tt el j hti hj1 gb 0 0 #[] hgw ad 0 c [] (by simp) (fun q u hq => by simp at hq) (fun u hu => by cases hu) (by omega) (by simp)
    simp only [List.length_nil] at this ⊢
    rw [this]
    have hset : (at' w m).setRow gb #[] = at' w m := by
     have key : ∀ (u : World) (h : Array Obj), h = u.heap → { u with heap := h } = u := fun u h e => by subst e; rfl
     unfold World.setRow
     refine key (at' w m) _ ?_
     apply Array.ext
     ·simp
     ·intro i h1 h2
      rw [Array.getElem_modify]
      split
      ·rename_i hi
       subst hi
       have : (at' w m).heap[gb]? = some (.cells #[] el (0, 0)) := hgw
       rw [Array.getElem?_eq_getElem h2] at this
       simp only [Option.some.injEq] at this
       rw [this]
      ·rfl
    simp [hset]
  ·have hX : Ext w (at' w m) := (Ext.refl w).at m
   exact k (some ⟨gb, 0, none⟩) 0 (at' w m) (hO0.ext hX) hX (.inl rfl)
 ·have hb : b ≠ none := by
   intro h
   subst h
   cases ys with
   | nil => exact hy0 rfl
   | cons z r => obtain ⟨b', off, h1, _⟩ := hr.elem 0 z rfl; cases h1
  have hpos : 0 < ys.length := by cases ys with | nil => exact absurd rfl hy0 | cons z r => simp
  have hbytes : (0 + ys.length) * ei.bytes ≤ 140737488355328 := by
   rw [Nat.zero_add]
   calc ys.length * ei.bytes ≤ 137438953472 * 1024 := Nat.mul_le_mul hbd hb'
    _ ≤ _ := by decide
  obtain ⟨ad, rfl⟩ := Option.ne_none_iff_exists'.1 hb
  have hnews : ∀ (q : Nat) i u, (ys.flatMap enc)[i]? = some u → (at' w q).cell? (ad.add i) = some u := fun q i u hu => row_cells hE (hr.ext hw1) i u hu
  have hone : ∀ u ∈ ys.flatMap enc, u.oneCell' = true := fun u hu => by
   obtain ⟨z, _, hz'⟩ := List.mem_flatMap.1 hu
   exact hE.one z u hz'
  have hlY : (ys.flatMap enc).length = ys.length * j.size := by rw [length_flatMap' hE.len, hj2.trans hs]
  have hfit := growslice_fits (need := 0 + ys.length) (old := 0) (bytes := j.bytes) (by omega) (by rw [hj3]; exact hbytes)
  have hgr : ∀ q, (Builtin.append_ #[t, t] tt #[.slice (some ⟨gb, 0, none⟩) 0 0, .slice (some ad) ys.length c]).run P (at' w q) = .ok (.slice (some ⟨w.heap.size, 0, none⟩) (0 + ys.length) (grownCap (at' w q) (0 + ys.length) 0 el)) ((at' w q).drew.alloc (.cells (([] : List Value).toArray ++ (ys.flatMap enc).toArray ++ Builtin.zeroCells ei.zero.cells (grownCap (at' w q) (0 + ys.length) 0 el - (0 + ys.length))) el)) := fun q =>
   run_append_grow (P := P) (at' w q) t tt el j ei.zero hti hj1 hj4 ⟨gb, 0, none⟩ 0 0 [] (by simp) (fun i u h => by simp at h) ad ys.length c (ys.flatMap enc) hlY (hnews q) (by omega) (by simp only [Nat.zero_add]; omega) hfit
  refine ⟨fun ac q hf => ?_⟩
  unfold wpList
  rw [if_pos (by rw [gate_wanted hf (o := ⟨some d, .call ⟨.builtin .append, ⟨[x, y]⟩, ⟨[t, t]⟩⟩, tt, ps, af, g⟩) hg])]
  refine .inl ?_
  obtain ⟨v', w', hrun, h2, _, _⟩ := run_append_own (P := P) (at' w q) B t tt el j ei.zero s ei.bytes hti hj1 hj4 (hj2.trans hs) hj3 hz hE.pos (.slice (some ⟨gb, 0, none⟩) 0 0) 0 [] hO0 ad ys.length c (ys.flatMap enc)
   (by rw [length_flatMap' hE.len]) (hnews q) hone (by simp only [maxLen]; omega) hbytes (by show B ≤ w.heap.size; omega)
  have hg' := hgr q
  rw [hg'] at hrun
  simp only [Result.ok.injEq] at hrun
  obtain ⟨hv, hw⟩ := hrun
  have hexec : (execOp ac.eval ⟨some d, .call ⟨.builtin .append, ⟨[x, y]⟩, ⟨[t, t]⟩⟩, tt, ps, af, g⟩).run P (at' w q) = .ok (.value v') w' := by
   simp only [execOp, resolve, invoke, builtin, Sem.run_bind, Sem.run_pure, Result.andThen_ok, List.map_toArray, List.map_cons, List.map_nil, hf.eval hx, hf.eval hy, hg', hv, hw]
  unfold Oper.wp
  rw [hexec]
  have hX : Ext w w' := by rw [← hw]; exact ⟨rfl, rfl, rfl, by simp, fun k hk => heap_alloc_old (at' w q).drew _ hk⟩
  have hO : Own s enc el B w' (some ⟨w.heap.size, 0, none⟩) (grownCap (at' w q) (0 + ys.length) 0 el) ys := by
   rw [← hv] at h2
   simp only [List.nil_append, Nat.zero_add] at h2 ⊢
   exact h2
  subst hv
  have := (k _ _ w' hO hX (.inr fun k hk => by simp only [blk, Option.map_some, Option.some.injEq] at hk; omega)).go _ w'.drawn (hf.put (by simpa [Nat.blt_eq] using hd) _)
  simp only [Nat.zero_add] at this ⊢
  exact this
end rules

open Classical in
noncomputable def prowZ {α : Type} (s : Nat) (enc : α → List Value) (el B : Nat) (a : Option Addr) (cap : Nat) (l : List α) : Piece :=
 ⟨if l = [] then none else blk a, fun w => l ≠ [] → Own s enc el B w a cap l, fun {w w'} h hb hl => (h hl).keep fun k hk => hb k (by rw [if_neg hl]; exact hk)⟩
theorem prowZ_b {α : Type} {s : Nat} {enc : α → List Value} {el B cap : Nat} {a : Option Addr} {l : List α} (hl : l ≠ []) : (prowZ s enc el B a cap l).b = blk a := if_neg hl
theorem Sep.rowZ {α : Type} {s : Nat} {enc : α → List Value} {el B cap i : Nat} {a : Option Addr} {l : List α} {w : World} {ps : List Piece} (hS : Sep B w ps) (h : ps[i]? = some (prowZ s enc el B a cap l)) (hl : l ≠ []) : Own s enc el B w a cap l := (hS.holds i _ h).1 hl
theorem Sep.news {B : Nat} {w w' : World} {ps : List Piece} (qs : List Piece) (hS : Sep B w ps) (hx : Ext w w') (hp : ∀ q ∈ qs, q.P w' ∧ ∀ k, q.b = some k → w.heap.size ≤ k ∧ k < w'.heap.size) (ha : Apart (qs.map (·.b))) (hB : B ≤ w.heap.size) : Sep B w' (qs ++ ps) := by
 induction qs with
 | nil => exact hS.ext hx
 | cons q r ih =>
  have ha' := List.pairwise_cons.1 (show List.Pairwise _ (q.b :: r.map (·.b)) from ha)
  have ih' := ih (fun p h => hp p (by simp [h])) ha'.2
  obtain ⟨hq1, hq2⟩ := hp q (by simp)
  have key : ∀ (j : Nat) (p : Piece), (r ++ ps)[j]? = some p → (q.b = none ∨ q.b ≠ p.b) ∧ (p.b = none ∨ p.b ≠ q.b) := by
   intro j p hj
   have base : q.b = none ∨ q.b ≠ p.b := by
    by_cases hlt : j < r.length
    ·rw [List.getElem?_append_left hlt] at hj
     exact ha'.1 p.b (List.mem_map.2 ⟨p, List.mem_of_getElem? hj, rfl⟩)
    ·rw [List.getElem?_append_right (by omega)] at hj
     cases hb : q.b with
     | none => exact .inl rfl
     | some k =>
      refine .inr fun he => ?_
      have h1 := (hq2 k hb).1
      have h2 := ((hS.holds _ p hj).2 k he.symm).2
      omega
   refine ⟨base, ?_⟩
   rcases base with h | h
   ·cases hb : p.b with
    | none => exact .inl rfl
    | some k => exact .inr (by rw [h]; simp)
   ·exact .inr (Ne.symm h)
  refine ⟨fun i p h => ?_, fun i j p p' h1 h2 hne => ?_⟩
  ·cases i with
   | zero => simp at h; subst h; exact ⟨hq1, fun k hk => ⟨Nat.le_trans hB (hq2 k hk).1, (hq2 k hk).2⟩⟩
   | succ i => exact ih'.holds i p (by simpa using h)
  ·cases i with
   | zero =>
    simp at h1; subst h1
    cases j with
    | zero => exact absurd rfl hne
    | succ j => exact (key j p' (by simpa using h2)).1
   | succ i =>
    cases j with
    | zero => simp at h2; subst h2; exact (key i p (by simpa using h1)).2
    | succ j => exact ih'.apart i j p p' (by simpa using h1) (by simpa using h2) (by omega)
theorem prowZ_new {α : Type} {s : Nat} {enc : α → List Value} {el B C cap : Nat} {a : Option Addr} {l : List α} {w : World} (h : Own s enc el B w a cap l) (hB : C ≤ B) : (prowZ s enc el C a cap l).P w ∧ ∀ k, (prowZ s enc el C a cap l).b = some k → B ≤ k ∧ k < w.heap.size := by
 refine ⟨fun _ => h.base hB, fun k hk => ?_⟩
 by_cases hl : l = []
 ·have : (prowZ s enc el C a cap l).b = none := if_pos hl
  rw [this] at hk; cases hk
 ·rw [prowZ_b hl] at hk; exact h.blk_lt k hk
theorem apartS {bs cs : List (Option Nat)} (h : Apart bs) (hs : List.Sublist cs bs := by repeat' (first | exact List.Sublist.slnil | apply List.Sublist.cons_cons | apply List.Sublist.cons)) : Apart cs := List.Pairwise.sublist hs h
theorem Sep.takeN {B : Nat} {w : World} {ps : List Piece} (hS : Sep B w ps) (n : Nat) : Sep B w (ps.take n) := by
 have key : ∀ (i : Nat) (p : Piece), (ps.take n)[i]? = some p → ps[i]? = some p := fun i p h => by
  rw [List.getElem?_take] at h; split at h
  ·exact h
  ·cases h
 exact ⟨fun i p h => hS.holds i p (key i p h), fun i j p q h1 h2 hne => hS.apart i j p q (key i p h1) (key j q h2) hne⟩
end Go.Lt
