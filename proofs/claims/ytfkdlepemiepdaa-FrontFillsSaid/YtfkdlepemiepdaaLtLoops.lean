/- Loops that count up: alone; with a world that changes; with one or two rows of one's own. Generic over the program. No conditions. -/
import Derived.Test.YtfkdlepemiepdaaLtTail
namespace Go.Lt
open Go.RowKit
set_option linter.unusedVariables false
section
variable {P : Program} {N : Nat} {e : Env} {w : World} {Q : Exit → Act → World → Prop} {c : Code}

/-- What a round hands on. -/
def K1 (N : Nat) (I : Nat → Prop) (E : Nat → Env) (w : World) (k : Nat) : Act → World → Prop := fun ac w'' => I (k + 1) ∧ Fit N (E (k + 1)) ac ∧ ∃ m, w'' = at' w m
def KW (N : Nat) (I : Nat → World → Prop) (E : Nat → Env) (k : Nat) : Act → World → Prop := fun ac w'' => ∃ w1, I (k + 1) w1 ∧ Fit N (E (k + 1)) ac ∧ ∃ m, w'' = at' w1 m
def KO (N : Nat) (I : Nat → Option Addr → Nat → World → Prop) (E : Nat → Option Addr → Nat → Env) (k : Nat) : Act → World → Prop := fun ac w'' => ∃ a' cp' w1, I (k + 1) a' cp' w1 ∧ Fit N (E (k + 1) a' cp') ac ∧ ∃ m, w'' = at' w1 m
def KO2 (N : Nat) (I : Nat → Option Addr → Nat → Option Addr → Nat → World → Prop) (E : Nat → Option Addr → Nat → Option Addr → Nat → Env) (k : Nat) : Act → World → Prop := fun ac w'' => ∃ a' cp' b' dp' w1, I (k + 1) a' cp' b' dp' w1 ∧ Fit N (E (k + 1) a' cp' b' dp') ac ∧ ∃ m, w'' = at' w1 m

theorem W.loop1 (n : Nat) (I : Nat → Prop) (E : Nat → Env) (h0 : I 0) (hb : ∀ k, I k → k ≤ n) (hE : Sub (E 0) e)
    (round : ∀ k, I k → W P N c (E k) w (Exit.then (K1 N I E w k) Q)) : W P N (.loop c) e w Q := by
  refine W.loop (σ := Nat) I E (fun _ => w) (fun k => n + 1 - k) 0 h0 hE rfl fun k hk => ?_
  refine ⟨fun a m hf => wp_mono ((round k hk).go a m hf) fun x a' w' hq => ?_⟩
  cases x with
  | normal => obtain ⟨h1, h2, h3⟩ := hq; exact ⟨k + 1, h1, by have := hb k hk; omega, h2, h3⟩
  | _ => exact hq
theorem Z.again1 {I : Nat → Prop} {E : Nat → Env} {k : Nat} (h1 : I (k + 1)) (hs : Sub (E (k + 1)) e) : Z N (Exit.then (K1 N I E w k) Q) .normal e w :=
  ⟨fun a m hf => ⟨h1, hf.sub (e := e) (e' := E (k + 1)) hs, m, rfl⟩⟩

theorem W.loopW (n : Nat) (I : Nat → World → Prop) (E : Nat → Env) (h0 : I 0 w) (hb : ∀ k w', I k w' → k ≤ n) (hE : Sub (E 0) e)
    (round : ∀ k w', I k w' → W P N c (E k) w' (Exit.then (KW N I E k) Q)) : W P N (.loop c) e w Q := by
  refine W.loop (σ := Nat × World) (fun s => I s.1 s.2) (fun s => E s.1) (fun s => s.2) (fun s => n + 1 - s.1) (0, w) h0 hE rfl fun s hk => ?_
  refine ⟨fun a m hf => wp_mono ((round s.1 s.2 hk).go a m hf) fun x a' w' hq => ?_⟩
  cases x with
  | normal => obtain ⟨w1, h1, h2, h3⟩ := hq; exact ⟨(s.1 + 1, w1), h1, by have := hb _ _ hk; show n + 1 - (s.1 + 1) < n + 1 - s.1; omega, h2, h3⟩
  | _ => exact hq
theorem Z.againW {I : Nat → World → Prop} {E : Nat → Env} {k : Nat} (h1 : I (k + 1) w) (hs : Sub (E (k + 1)) e) : Z N (Exit.then (KW N I E k) Q) .normal e w :=
  ⟨fun a m hf => ⟨w, h1, hf.sub (e := e) (e' := E (k + 1)) hs, m, rfl⟩⟩

theorem W.loopO (n : Nat) (I : Nat → Option Addr → Nat → World → Prop) (E : Nat → Option Addr → Nat → Env) (a0 : Option Addr) (c0 : Nat) (h0 : I 0 a0 c0 w) (hb : ∀ k a cp w', I k a cp w' → k ≤ n) (hE : Sub (E 0 a0 c0) e)
    (round : ∀ k a cp w', I k a cp w' → W P N c (E k a cp) w' (Exit.then (KO N I E k) Q)) : W P N (.loop c) e w Q := by
  refine W.loop (σ := Nat × Option Addr × Nat × World) (fun s => I s.1 s.2.1 s.2.2.1 s.2.2.2) (fun s => E s.1 s.2.1 s.2.2.1) (fun s => s.2.2.2) (fun s => n + 1 - s.1) (0, a0, c0, w) h0 hE rfl fun s hk => ?_
  refine ⟨fun a m hf => wp_mono ((round s.1 s.2.1 s.2.2.1 s.2.2.2 hk).go a m hf) fun x a' w' hq => ?_⟩
  cases x with
  | normal => obtain ⟨a1, c1, w1, h1, h2, h3⟩ := hq; exact ⟨(s.1 + 1, a1, c1, w1), h1, by have := hb _ _ _ _ hk; show n + 1 - (s.1 + 1) < n + 1 - s.1; omega, h2, h3⟩
  | _ => exact hq
theorem Z.againO {I : Nat → Option Addr → Nat → World → Prop} {E : Nat → Option Addr → Nat → Env} {k : Nat} (a' : Option Addr) (cp' : Nat) (h1 : I (k + 1) a' cp' w) (hs : Sub (E (k + 1) a' cp') e) :
    Z N (Exit.then (KO N I E k) Q) .normal e w :=
  ⟨fun a m hf => ⟨a', cp', w, h1, hf.sub (e := e) (e' := E (k + 1) a' cp') hs, m, rfl⟩⟩

theorem W.loopO2 (n : Nat) (I : Nat → Option Addr → Nat → Option Addr → Nat → World → Prop) (E : Nat → Option Addr → Nat → Option Addr → Nat → Env) (a0 : Option Addr) (c0 : Nat) (b0 : Option Addr) (d0 : Nat) (h0 : I 0 a0 c0 b0 d0 w) (hb : ∀ k a cp b dp w', I k a cp b dp w' → k ≤ n) (hE : Sub (E 0 a0 c0 b0 d0) e)
    (round : ∀ k a cp b dp w', I k a cp b dp w' → W P N c (E k a cp b dp) w' (Exit.then (KO2 N I E k) Q)) : W P N (.loop c) e w Q := by
  refine W.loop (σ := Nat × Option Addr × Nat × Option Addr × Nat × World) (fun s => I s.1 s.2.1 s.2.2.1 s.2.2.2.1 s.2.2.2.2.1 s.2.2.2.2.2) (fun s => E s.1 s.2.1 s.2.2.1 s.2.2.2.1 s.2.2.2.2.1) (fun s => s.2.2.2.2.2) (fun s => n + 1 - s.1) (0, a0, c0, b0, d0, w) h0 hE rfl fun s hk => ?_
  refine ⟨fun a m hf => wp_mono ((round s.1 s.2.1 s.2.2.1 s.2.2.2.1 s.2.2.2.2.1 s.2.2.2.2.2 hk).go a m hf) fun x a' w' hq => ?_⟩
  cases x with
  | normal => obtain ⟨a1, c1, b1, d1, w1, h1, h2, h3⟩ := hq; exact ⟨(s.1 + 1, a1, c1, b1, d1, w1), h1, by have := hb _ _ _ _ _ _ hk; show n + 1 - (s.1 + 1) < n + 1 - s.1; omega, h2, h3⟩
  | _ => exact hq
theorem Z.againO2 {I : Nat → Option Addr → Nat → Option Addr → Nat → World → Prop} {E : Nat → Option Addr → Nat → Option Addr → Nat → Env} {k : Nat} (a' : Option Addr) (cp' : Nat) (b' : Option Addr) (dp' : Nat) (h1 : I (k + 1) a' cp' b' dp' w) (hs : Sub (E (k + 1) a' cp' b' dp') e) :
    Z N (Exit.then (KO2 N I E k) Q) .normal e w :=
  ⟨fun a m hf => ⟨a', cp', b', dp', w, h1, hf.sub (e := e) (e' := E (k + 1) a' cp' b' dp') hs, m, rfl⟩⟩
end

theorem getI {α : Type} (l : List α) {k : Nat} (h : k < l.length) : ∃ x, l[k]? = some x := ⟨l[k], by simp [h]⟩
theorem lt_of_get {α : Type} {l : List α} {k : Nat} {x : α} (h : l[k]? = some x) : k < l.length := (List.getElem?_eq_some_iff.1 h).1
theorem take_succ' {α : Type} {l : List α} {k : Nat} {x : α} (h : l[k]? = some x) : l.take (k + 1) = l.take k ++ [x] := by
  rw [List.take_add_one, h]; rfl
theorem getD_of {α : Type} {l : List α} {k : Nat} {x d : α} (h : l[k]? = some x) : l.getD k d = x := by simp [List.getD, h]
end Go.Lt
