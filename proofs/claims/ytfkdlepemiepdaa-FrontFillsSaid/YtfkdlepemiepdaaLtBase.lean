/- The walk's own small logic: environments of slots, worlds up to draws, and one rule for each form of code. Generic over the program. No conditions. -/
import Derived.WalkKit
import Derived.ProofKit
import Derived.Deep.Quiet
import Derived.Deep.LoopGhost
namespace Go.Lt
open Go.RowKit
set_option linter.unusedVariables false
set_option linter.unusedSimpArgs false

/-! ### Worlds up to the count of draws -/

abbrev at' (w : World) (m : Nat) : World := { w with drawn := m }

theorem at'_self (w : World) : at' w w.drawn = w := rfl

/-- What was there is as it was. -/
abbrev Ext (w w' : World) : Prop := Below w.heap.size w w'

theorem Ext.refl (w : World) : Ext w w := Below.refl _ _
theorem Ext.trans {a b c : World} (h : Ext a b) (k : Ext b c) : Ext a c := Below.trans h (k.mono h.size)
theorem Ext.at {a b : World} (h : Ext a b) (m : Nat) : Ext a (at' b m) := ⟨h.os, h.tape, h.output, h.size, h.block⟩
theorem Ext.of_at {a b : World} {m : Nat} (h : Ext (at' a m) b) : Ext a b := ⟨h.os, h.tape, h.output, h.size, h.block⟩
theorem Ext.cell {a b : World} (h : Ext a b) {p : Addr} {v : Value} (hp : a.cell? p = some v) : b.cell? p = some v := by
  rw [← hp]; exact Below.cell h (World.block_lt_of_cell? _ _ hp)
/-- What was there is as it was: found among what is known. -/
theorem extA {a b : World} (h : Ext a b := by first | exact Ext.refl _ | assumption | exact Ext.trans (by assumption) (by assumption) | (focus (repeat (first | exact Ext.refl _ | assumption | (apply Ext.trans; rotate_left; assumption))); done) | solve_by_elim (maxDepth := 8) [Ext.trans]) : Ext a b := h

/-- The truth of a sentence: a Bool into which no reckoning looks. -/
noncomputable def dec (p : Prop) : Bool := @decide p (Classical.propDecidable p)
theorem dec_true {p : Prop} (h : p) : dec p = true := by unfold dec; exact @decide_eq_true p (Classical.propDecidable p) h
theorem dec_false {p : Prop} (h : ¬ p) : dec p = false := by unfold dec; exact @decide_eq_false p (Classical.propDecidable p) h
theorem of_dec {p : Prop} (h : dec p = true) : p := by by_cases hp : p; exact hp; rw [dec_false hp] at h; cases h
theorem of_dec_false {p : Prop} (h : dec p = false) : ¬ p := fun hp => by rw [dec_true hp] at h; cases h
theorem dec_iff {p : Prop} : dec p = true ↔ p := ⟨of_dec, dec_true⟩
theorem dec_decide (p : Prop) [Decidable p] : dec p = decide p := by by_cases h : p <;> simp [h, dec_true, dec_false]
theorem dec_congr {p q : Prop} (h : p ↔ q) : dec p = dec q := by rw [propext h]

/-! ### Environments -/

abbrev Env := List (Nat × Value)

def get : Env → Nat → Option Value
  | [], _ => none
  | (k, v) :: r, t => bif Nat.beq k t then some v else get r t

def ev (e : Env) : Operand → Option Value
  | .tmp t => get e t
  | .const v => some v
  | .global g => some (.pointer (some ⟨g, 0, none⟩))
  | .func f => some (.func (.func f) #[] #[])

/-- The frame has N slots, nothing is deferred, and each slot that the environment names holds what it says. -/
structure Fit (N : Nat) (e : Env) (a : Act) : Prop where
  size : a.tmps.size = N
  defers : a.defers = []
  slots : ∀ t v, get e t = some v → a.tmps[t]? = some v

theorem Fit.eval {N : Nat} {e : Env} {a : Act} (h : Fit N e a) {o : Operand} {v : Value} (hv : ev e o = some v) : a.eval o = v := by
  cases o with
  | tmp t => have := h.slots t v hv; simp [Act.eval, Array.getD_eq_getD_getElem?, this]
  | const c => simpa [ev, Act.eval] using hv
  | global g => simpa [ev, Act.eval] using hv
  | func f => simpa [ev, Act.eval] using hv

theorem get_cons {k : Nat} {v : Value} {r : Env} {t : Nat} : get ((k, v) :: r) t = if k = t then some v else get r t := by
  show (bif Nat.beq k t then some v else get r t) = _
  by_cases h : k = t
  · subst h; simp
  · have : Nat.beq k t = false := by
      cases hb : Nat.beq k t with
      | false => rfl
      | true => exact absurd (Nat.eq_of_beq_eq_true hb) h
    simp [this, h]

theorem Fit.put {N : Nat} {e : Env} {a : Act} (h : Fit N e a) {d : Nat} (hd : d < N) (v : Value) : Fit N ((d, v) :: e) (a.put (some d) v) := by
  refine ⟨by simp [Act.put, h.size], h.defers, fun t u hu => ?_⟩
  rw [get_cons] at hu
  by_cases hdt : d = t
  · subst hdt
    rw [if_pos rfl] at hu
    simp only [Option.some.injEq] at hu
    subst hu
    simp [Act.put, Array.getElem?_setIfInBounds, h.size, hd]
  · rw [if_neg hdt] at hu
    have := h.slots t u hu
    simp [Act.put, Array.getElem?_setIfInBounds, hdt, this]

theorem Fit.shadow {N : Nat} {e : Env} {a : Act} (h : Fit N e a) {d : Nat} {v : Value} (hd : get e d = some v) : Fit N ((d, v) :: e) a := by
  refine ⟨h.size, h.defers, fun t u hu => ?_⟩
  rw [get_cons] at hu
  by_cases hdt : d = t
  · subst hdt; rw [if_pos rfl] at hu; simp only [Option.some.injEq] at hu; subst hu; exact h.slots _ _ hd
  · rw [if_neg hdt] at hu; exact h.slots _ _ hu

/-- Each slot of the smaller environment stands so in the greater one. -/
def Sub : Env → Env → Prop
  | [], _ => True
  | (t, v) :: r, e => get e t = some v ∧ Sub r e

theorem Fit.sub {N : Nat} {e e' : Env} {a : Act} (h : Fit N e a) : ∀ {e' : Env}, Sub e' e → Fit N e' a
  | [], _ => ⟨h.size, h.defers, fun t v hv => by cases hv⟩
  | (k, u) :: r, hs => by
    have ih := Fit.sub (e := e) (e' := r) h hs.2
    refine ⟨h.size, h.defers, fun t v hv => ?_⟩
    rw [get_cons] at hv
    by_cases hkt : k = t
    · subst hkt; rw [if_pos rfl] at hv; simp only [Option.some.injEq] at hv; subst hv; exact h.slots _ _ hs.1
    · rw [if_neg hkt] at hv; exact ih.slots _ _ hv

/-! ### The judgements -/

/-- Whatever frame fits the environment, whatever count of draws: Q at this exit. -/
structure Z (N : Nat) (Q : Exit → Act → World → Prop) (x : Exit) (e : Env) (w : World) : Prop where
  go : ∀ a m, Fit N e a → Q x a (at' w m)

structure W (P : Program) (N : Nat) (c : Code) (e : Env) (w : World) (Q : Exit → Act → World → Prop) : Prop where
  go : ∀ a m, Fit N e a → c.wp P Q a (at' w m)

structure WL (P : Program) (N : Nat) (ops : Array Oper) (l : List Oper) (e : Env) (w : World) (Q : Exit → Act → World → Prop) : Prop where
  go : ∀ a m, Fit N e a → wpList P ops Q l a (at' w m)

section rules
variable {P : Program} {N : Nat} {e : Env} {w : World} {Q : Exit → Act → World → Prop}

theorem W.sub {c : Code} (e' : Env) (hs : Sub e' e) (h : W P N c e' w Q) : W P N c e w Q := ⟨fun a m hf => h.go a m (hf.sub (e := e) (e' := e') hs)⟩

theorem W.seq {x y : Code} (h : W P N x e w (Exit.then (y.wp P Q) Q)) : W P N (.seq x y) e w Q := ⟨fun a m hf => wp_seq (h.go a m hf)⟩
theorem W.block {id : Nat} {c : Code} (h : W P N c e w (Exit.inBlock id Q)) : W P N (.block id c) e w Q := ⟨fun a m hf => wp_block (h.go a m hf)⟩
theorem W.skip (h : Z N Q .normal e w) : W P N .skip e w Q := ⟨fun a m hf => wp_skip (h.go a m hf)⟩
theorem W.ret (h : Z N Q .ret e w) : W P N .ret e w Q := ⟨fun a m hf => wp_ret (h.go a m hf)⟩
theorem W.exit {id : Nat} (h : Z N Q (.exit id) e w) : W P N (.exit id) e w Q := ⟨fun a m hf => wp_exit (h.go a m hf)⟩

theorem W.condT {c : Operand} {x y : Code} (hc : ev e c = some (.bool true)) (h : W P N x e w Q) : W P N (.cond c x y) e w Q :=
  ⟨fun a m hf => wp_cond_true (hf.eval hc) (h.go a m hf)⟩
theorem W.condF {c : Operand} {x y : Code} (hc : ev e c = some (.bool false)) (h : W P N y e w Q) : W P N (.cond c x y) e w Q :=
  ⟨fun a m hf => wp_cond_false (hf.eval hc) (h.go a m hf)⟩
theorem W.condD {c : Operand} {x y : Code} {p : Prop} (hc : ev e c = some (.bool (dec p))) (ht : p → W P N x e w Q) (hf' : ¬ p → W P N y e w Q) : W P N (.cond c x y) e w Q := by
  by_cases hp : p
  · exact W.condT (by rw [hc, dec_true hp]) (ht hp)
  · exact W.condF (by rw [hc, dec_false hp]) (hf' hp)
theorem W.condN {c : Operand} {x y : Code} {p : Prop} (hc : ev e c = some (.bool (!dec p))) (ht : ¬ p → W P N x e w Q) (hf' : p → W P N y e w Q) : W P N (.cond c x y) e w Q := by
  by_cases hp : p
  · exact W.condF (by rw [hc, dec_true hp]; rfl) (hf' hp)
  · exact W.condT (by rw [hc, dec_false hp]; rfl) (ht hp)
theorem W.condB {c : Operand} {x y : Code} {b : Bool} (hc : ev e c = some (.bool b)) (ht : b = true → W P N x e w Q) (hf' : b = false → W P N y e w Q) : W P N (.cond c x y) e w Q := by
  cases b
  · exact W.condF hc (hf' rfl)
  · exact W.condT hc (ht rfl)

theorem Z.then_normal {y : Code} (h : W P N y e w Q) : Z N (Exit.then (y.wp P Q) Q) .normal e w := ⟨h.go⟩
theorem Z.then_K {K : Act → World → Prop} (h : ∀ a m, Fit N e a → K a (at' w m)) : Z N (Exit.then K Q) .normal e w := ⟨h⟩
theorem Z.then_exit {K : Act → World → Prop} {id : Nat} (h : Z N Q (.exit id) e w) : Z N (Exit.then K Q) (.exit id) e w := ⟨h.go⟩
theorem Z.then_ret {K : Act → World → Prop} (h : Z N Q .ret e w) : Z N (Exit.then K Q) .ret e w := ⟨h.go⟩
theorem Z.block_normal {id : Nat} (h : Z N Q .normal e w) : Z N (Exit.inBlock id Q) .normal e w := ⟨h.go⟩
theorem Z.block_ret {id : Nat} (h : Z N Q .ret e w) : Z N (Exit.inBlock id Q) .ret e w := ⟨h.go⟩
theorem Z.block_exit {id : Nat} (h : Z N Q .normal e w) : Z N (Exit.inBlock id Q) (.exit id) e w := ⟨fun a m hf => by
  simp only [Exit.inBlock, if_true]; exact h.go a m hf⟩
theorem Z.block_other {id j : Nat} (hj : Nat.beq j id = false) (h : Z N Q (.exit j) e w) : Z N (Exit.inBlock id Q) (.exit j) e w := ⟨fun a m hf => by
  have : j ≠ id := fun hh => by subst hh; simp at hj
  simp only [Exit.inBlock, this, if_false]; exact h.go a m hf⟩

/-- A region in the text's order. -/
theorem W.region {id : Nat} {l : List Oper} (h : WL P N l.toArray l e w Q) : W P N (.region id l.toArray false) e w Q :=
  ⟨fun a m hf => wp_region_lit (h.go a m hf)⟩

theorem WL.nil {ops : Array Oper} (h : Z N Q .normal e w) : WL P N ops [] e w Q := ⟨fun a m hf => wpList_nil (h.go a m hf)⟩

/-- A loop: the states 's' of its heads, the slots that they name, their worlds, a measure. -/
theorem W.loop {σ : Type} {c : Code} (I : σ → Prop) (E : σ → Env) (U : σ → World) (μ : σ → Nat)
    (s0 : σ) (h0 : I s0) (hE : Sub (E s0) e) (hU : U s0 = w)
    (round : ∀ s, I s → W P N c (E s) (U s) (Exit.then (fun a w' => ∃ s', I s' ∧ μ s' < μ s ∧ Fit N (E s') a ∧ ∃ m, w' = at' (U s') m) Q)) :
    W P N (.loop c) e w Q := by
  refine ⟨fun a m hf => ?_⟩
  subst hU
  refine wp_loop_ghost (fun k a' w' => ∃ s n, I s ∧ μ s = k ∧ Fit N (E s) a' ∧ w' = at' (U s) n) (μ s0) ⟨s0, m, h0, rfl, hf.sub (e := e) (e' := E s0) hE, rfl⟩ ?_
  rintro k a' w' ⟨s, n, h1, rfl, h3, rfl⟩
  refine wp_mono ((round s h1).go a' n h3) fun x a'' w'' hq => ?_
  cases x with
  | normal => obtain ⟨s', k1, k2, k3, n', k4⟩ := hq; exact ⟨μ s', k2, s', n', k1, rfl, k3, k4⟩
  | _ => exact hq

theorem Z.again {σ : Type} {I : σ → Prop} {E : σ → Env} {U : σ → World} {μ : σ → Nat} {k : Nat} (s' : σ) (h1 : I s') (h2 : μ s' < k) (h3 : Sub (E s') e) (h4 : U s' = w) :
    Z N (Exit.then (fun a w' => ∃ s', I s' ∧ μ s' < k ∧ Fit N (E s') a ∧ ∃ m, w' = at' (U s') m) Q) .normal e w :=
  ⟨fun a m hf => ⟨s', h1, h2, hf.sub (e := e) (e' := E s') h3, m, by rw [h4]⟩⟩

/-- A cut: what holds behind x, whatever the way. -/
theorem W.cut {σ : Type} {x y : Code} (I : σ → Prop) (E : σ → Env) (U : σ → World)
    (h : W P N x e w (Exit.then (fun a w' => ∃ s, I s ∧ Fit N (E s) a ∧ ∃ m, w' = at' (U s) m) Q))
    (k : ∀ s, I s → W P N y (E s) (U s) Q) : W P N (.seq x y) e w Q := ⟨fun a m hf => by
  refine wp_seq (wp_mono (h.go a m hf) fun ex a' w' hq => ?_)
  cases ex with
  | normal => obtain ⟨s, h1, h2, n, h3⟩ := hq; subst h3; exact (k s h1).go a' n h2
  | _ => exact hq⟩

theorem Z.cut {σ : Type} {I : σ → Prop} {E : σ → Env} {U : σ → World} (s : σ) (h1 : I s) (h3 : Sub (E s) e) (h4 : U s = w) :
    Z N (Exit.then (fun a w' => ∃ s, I s ∧ Fit N (E s) a ∧ ∃ m, w' = at' (U s) m) Q) .normal e w :=
  ⟨fun a m hf => ⟨s, h1, hf.sub (e := e) (e' := E s) h3, m, by rw [h4]⟩⟩
end rules

/-! ### Contracts -/

/-- The call returns a value and leaves a world of which R is so, whatever the count of draws. -/
def Callable (P : Program) (f : FuncId) : Prop := ∃ fn, P.funcs[f]? = some fn ∧ fn.body ≠ none ∧ fn.name ≠ "runtime.NumGoroutine"

structure Spec (P : Program) (f : FuncId) (args : List Value) (w : World) (R : Value → World → Prop) : Prop where
  callable : Callable P f
  go : ∀ m, Calls P f args.toArray (at' w m) fun x w' => ∃ v, x = .returned v ∧ R v w'

theorem Spec.mono {P : Program} {f : FuncId} {args : List Value} {w : World} {R R' : Value → World → Prop} (h : Spec P f args w R) (k : ∀ v w', R v w' → R' v w') : Spec P f args w R' :=
  ⟨h.1, fun m => (h.2 m).mono fun _ _ ⟨v, hx, hr⟩ => ⟨v, hx, k _ _ hr⟩⟩

theorem Callable.run {P : Program} {f : FuncId} (h : Callable P f) (args : Array Value) (w : World) : (callFunc f args).run P w = .ok (.enter f args) w := by
  obtain ⟨fn, h1, h2, h3⟩ := h
  simp [callFunc, program, Sem.run, h1, h2, h3]

/-- The slots of a call's beginning. -/
def entry : Nat → List Value → Env
  | _, [] => []
  | i, v :: r => (i, v) :: entry (i + 1) r

theorem get_entry (args : List Value) : ∀ (i t : Nat) (v : Value), get (entry i args) t = some v → i ≤ t ∧ args[t - i]? = some v := by
  induction args with
  | nil => intro i t v h; cases h
  | cons x r ih =>
    intro i t v h
    simp only [entry] at h
    rw [get_cons] at h
    by_cases hit : i = t
    · subst hit; rw [if_pos rfl] at h; simpa using h
    · rw [if_neg hit] at h
      obtain ⟨h1, h2⟩ := ih (i + 1) t v h
      refine ⟨by omega, ?_⟩
      have : t - i = (t - (i + 1)) + 1 := by omega
      rw [this]; simpa using h2

theorem Spec.of {P : Program} {f : FuncId} {fn : Func} {c : Code} {args : List Value} {w : World} {R : Value → World → Prop} (N : Nat)
    (hf : P.funcs[f]? = some fn) (hb : fn.body = some c) (hN : fn.ntmps = N) (hname : (fn.name == "runtime.NumGoroutine") = false) (ha : Nat.ble args.length N = true)
    (h : W P N c (entry 0 args) w (bodyPost P fn fun x w' => ∃ v, x = .returned v ∧ R v w')) : Spec P f args w R := by
  refine ⟨⟨fn, hf, by rw [hb]; simp, by simpa using hname⟩, fun m => ?_⟩
  refine calls_of_wp hf hb (h.go _ m ⟨?_, rfl, ?_⟩)
  · have := Nat.le_of_ble_eq_true ha
    simp [hN]; omega
  · intro t v hv
    obtain ⟨_, h2⟩ := get_entry args 0 t v hv
    simp only [Nat.sub_zero] at h2
    have hl : t < args.length := (List.getElem?_eq_some_iff.1 h2).1
    rw [Array.getElem?_append_left (by simpa using hl)]
    simpa using h2

theorem Z.body1 {P : Program} {fn : Func} {N : Nat} {e : Env} {w : World} {R : Value → World → Prop} {t : Nat} {v : Value} (hr : fn.results = #[.tmp t]) (hv : get e t = some v) (hR : ∀ m, R v (at' w m)) :
    Z N (bodyPost P fn fun x w' => ∃ v, x = .returned v ∧ R v w') .ret e w := ⟨fun a m hf =>
  bodyPost_ret (v := v) (by rw [results_tmp hr]; have := hf.slots _ _ hv; simp [Array.getD_eq_getD_getElem?, this]) hf.defers ⟨v, rfl, hR m⟩⟩

theorem Z.body2 {P : Program} {fn : Func} {N : Nat} {e : Env} {w : World} {R : Value → World → Prop} {t u : Nat} {v x : Value} (hr : fn.results = #[.tmp t, .tmp u]) (hv : get e t = some v) (hx : get e u = some x) (hR : ∀ m, R (.tuple #[v, x]) (at' w m)) :
    Z N (bodyPost P fn fun x w' => ∃ v, x = .returned v ∧ R v w') .ret e w := ⟨fun a m hf =>
  bodyPost_ret (v := .tuple #[v, x]) (by rw [results_tmp2 hr]; have h1 := hf.slots _ _ hv; have h2 := hf.slots _ _ hx; simp [Array.getD_eq_getD_getElem?, h1, h2]) hf.defers ⟨_, rfl, hR m⟩⟩

theorem Z.body0 {P : Program} {fn : Func} {N : Nat} {e : Env} {w : World} {R : Value → World → Prop} (hr : fn.results = #[]) (hR : ∀ m, R (.tuple #[]) (at' w m)) :
    Z N (bodyPost P fn fun x w' => ∃ v, x = .returned v ∧ R v w') .ret e w := ⟨fun a m hf =>
  bodyPost_ret (v := .tuple #[]) (by rw [results_none hr]) hf.defers ⟨_, rfl, hR m⟩⟩
theorem Z.body0n {P : Program} {fn : Func} {N : Nat} {e : Env} {w : World} {R : Value → World → Prop} (hr : fn.results = #[]) (hR : ∀ m, R (.tuple #[]) (at' w m)) :
    Z N (bodyPost P fn fun x w' => ∃ v, x = .returned v ∧ R v w') .normal e w := ⟨fun a m hf =>
  bodyPost_end (v := .tuple #[]) (by rw [results_none hr]) hf.defers ⟨_, rfl, hR m⟩⟩
end Go.Lt
