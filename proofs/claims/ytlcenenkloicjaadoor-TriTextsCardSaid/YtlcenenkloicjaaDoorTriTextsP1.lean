/- TriTexts: the signs of any values, and the values of any signs, there and back. The row lists the table of the signs, which is tied to the program's text. -/
import Derived.Test.YtlcenenkloicjaaDoorRows
import Derived.Lib.SmallJoins
import Derived.KernelRfl
import Derived.Test.YtlcenenkloicjaaDoorTie
import Derived.Test.YtlcenenkloicjaaDoorCards
import Derived.WalkKit
import Derived.ProofKit
import Derived.Deep.Quiet
import Derived.Deep.LoopGhost
import Derived.StillTail
import Derived.Test.YtlcenenkloicjaaDoorProg
import Derived.OpenShut
import Derived.ShutString
import Derived.ChangeOld
import Derived.Deep.Slices
import Derived.SizedLaws
import Derived.Laws.StructEq
import Derived.Laws.IdiomStrings
import Derived.Laws.Concat
import Derived.Laws.Externs
import Derived.MapKept
import Derived.Lib.LaidTab
import Derived.LaidMore
import Derived.LaidOnce
import Derived.SevenTiedAt
import Derived.MakeChecks
namespace Go.Proofs.YtlcenenkloicjaaDoor
open Go Go.ChangeShapes Go.WideShapes Go.ChangeAt Go.RowKit
set_option linter.unusedVariables false
set_option linter.unusedSimpArgs false
set_option maxRecDepth 20000
theorem band {a b : Bool} (h : a = true) (k : b = true) : (a && b) = true := by rw [h, k]; rfl
theorem factLaid : (laidOutB Tryd.prog) = true := by kernel_rfl
theorem factMaps : (mapsRowed Tryd.prog) = true := by kernel_rfl
theorem factStops : ((Tryd.prog.stops == [])) = true := by kernel_rfl
theorem factKnobs : ((Tryd.prog.stopKnobs == [])) = true := by kernel_rfl
theorem factKeys : ((Rows.triTextsRow.plainKeys == Tryd.prog.plainKeys)) = true := by kernel_rfl
theorem factHeard : (Tryd.prog.stopsHeard) = true := by kernel_rfl
theorem factEnter : (Tryd.prog.mayEnter) = true := by kernel_rfl
theorem factLifts : ((Rows.triTextsRow.lifted == Tryd.prog.liftsFinal)) = true := by kernel_rfl
theorem factMake : ((Tryd.prog.make == some Rows.triTextsRow.make)) = true := by kernel_rfl
end Go.Proofs.YtlcenenkloicjaaDoor
namespace Go.Lt
open Go.RowKit
set_option linter.unusedVariables false
set_option linter.unusedSimpArgs false

abbrev at' (w : World) (m : Nat) : World := { w with drawn := m }

/-- What was there is as it was. -/
abbrev Ext (w w' : World) : Prop := Below w.heap.size w w'

theorem Ext.refl (w : World) : Ext w w := Below.refl _ _
theorem Ext.trans {a b c : World} (h : Ext a b) (k : Ext b c) : Ext a c := Below.trans h (k.mono h.size)
theorem Ext.at {a b : World} (h : Ext a b) (m : Nat) : Ext a (at' b m) := ⟨h.os, h.tape, h.output, h.size, h.block⟩
theorem Ext.cell {a b : World} (h : Ext a b) {p : Addr} {v : Value} (hp : a.cell? p = some v) : b.cell? p = some v := by
  rw [← hp]; exact Below.cell h (World.block_lt_of_cell? _ _ hp)
/-- What was there is as it was: found among what is known. -/
theorem extA {a b : World} (h : Ext a b := by first | exact Ext.refl _ | assumption | exact Ext.trans (by assumption) (by assumption) | (focus (repeat (first | exact Ext.refl _ | assumption | (apply Ext.trans; rotate_left; assumption))); done) | solve_by_elim (maxDepth := 8) [Ext.trans]) : Ext a b := h

/-- The truth of a sentence: a Bool into which no reckoning looks. -/
noncomputable def dec (p : Prop) : Bool := @decide p (Classical.propDecidable p)
theorem dec_true {p : Prop} (h : p) : dec p = true := by unfold dec; exact @decide_eq_true p (Classical.propDecidable p) h
theorem dec_false {p : Prop} (h : ¬ p) : dec p = false := by unfold dec; exact @decide_eq_false p (Classical.propDecidable p) h
theorem of_dec {p : Prop} (h : dec p = true) : p := by by_cases hp : p; exact hp; rw [dec_false hp] at h; cases h
theorem of_dec_false {p : Prop} (h : dec p = false) : ¬ p := fun hp => by rw [dec_true hp] at h; cases h
theorem dec_decide (p : Prop) [Decidable p] : dec p = decide p := by by_cases h : p <;> simp [h, dec_true, dec_false]
theorem dec_congr {p q : Prop} (h : p ↔ q) : dec p = dec q := by rw [propext h]

abbrev Env := List (Nat × Value)

def get : Env → Nat → Option Value
  | [], _ => none
  | (k, v) :: r, t => bif Nat.beq k t then some v else get r t

def ev (e : Env) : Operand → Option Value
  | .tmp t => get e t
  | .const v => some v
  | .global g => some (.pointer (some ⟨g, 0, none⟩))
  | .func f => some (.func (.func f) #[] #[])

/-- The frame has N slots, nothing is deferred, and each slot that the environment names holds what it says. -/
structure Fit (N : Nat) (e : Env) (a : Act) : Prop where
  size : a.tmps.size = N
  defers : a.defers = []
  slots : ∀ t v, get e t = some v → a.tmps[t]? = some v

theorem Fit.eval {N : Nat} {e : Env} {a : Act} (h : Fit N e a) {o : Operand} {v : Value} (hv : ev e o = some v) : a.eval o = v := by
  cases o with
  | tmp t => have := h.slots t v hv; simp [Act.eval, Array.getD_eq_getD_getElem?, this]
  | const c => simpa [ev, Act.eval] using hv
  | global g => simpa [ev, Act.eval] using hv
  | func f => simpa [ev, Act.eval] using hv

theorem get_cons {k : Nat} {v : Value} {r : Env} {t : Nat} : get ((k, v) :: r) t = if k = t then some v else get r t := by
  show (bif Nat.beq k t then some v else get r t) = _
  by_cases h : k = t
  · subst h; simp
  · have : Nat.beq k t = false := by
      cases hb : Nat.beq k t with
      | false => rfl
      | true => exact absurd (Nat.eq_of_beq_eq_true hb) h
    simp [this, h]

theorem Fit.put {N : Nat} {e : Env} {a : Act} (h : Fit N e a) {d : Nat} (hd : d < N) (v : Value) : Fit N ((d, v) :: e) (a.put (some d) v) := by
  refine ⟨by simp [Act.put, h.size], h.defers, fun t u hu => ?_⟩
  rw [get_cons] at hu
  by_cases hdt : d = t
  · subst hdt
    rw [if_pos rfl] at hu
    simp only [Option.some.injEq] at hu
    subst hu
    simp [Act.put, Array.getElem?_setIfInBounds, h.size, hd]
  · rw [if_neg hdt] at hu
    have := h.slots t u hu
    simp [Act.put, Array.getElem?_setIfInBounds, hdt, this]

theorem Fit.shadow {N : Nat} {e : Env} {a : Act} (h : Fit N e a) {d : Nat} {v : Value} (hd : get e d = some v) : Fit N ((d, v) :: e) a := by
  refine ⟨h.size, h.defers, fun t u hu => ?_⟩
  rw [get_cons] at hu
  by_cases hdt : d = t
  · subst hdt; rw [if_pos rfl] at hu; simp only [Option.some.injEq] at hu; subst hu; exact h.slots _ _ hd
  · rw [if_neg hdt] at hu; exact h.slots _ _ hu

/-- Each slot of the smaller environment stands so in the greater one. -/
def Sub : Env → Env → Prop
  | [], _ => True
  | (t, v) :: r, e => get e t = some v ∧ Sub r e

theorem Fit.sub {N : Nat} {e e' : Env} {a : Act} (h : Fit N e a) : ∀ {e' : Env}, Sub e' e → Fit N e' a
  | [], _ => ⟨h.size, h.defers, fun t v hv => by cases hv⟩
  | (k, u) :: r, hs => by
    have ih := Fit.sub (e := e) (e' := r) h hs.2
    refine ⟨h.size, h.defers, fun t v hv => ?_⟩
    rw [get_cons] at hv
    by_cases hkt : k = t
    · subst hkt; rw [if_pos rfl] at hv; simp only [Option.some.injEq] at hv; subst hv; exact h.slots _ _ hs.1
    · rw [if_neg hkt] at hv; exact ih.slots _ _ hv

/-- Whatever frame fits the environment, whatever count of draws: Q at this exit. -/
structure Z (N : Nat) (Q : Exit → Act → World → Prop) (x : Exit) (e : Env) (w : World) : Prop where
  go : ∀ a m, Fit N e a → Q x a (at' w m)

structure W (P : Program) (N : Nat) (c : Code) (e : Env) (w : World) (Q : Exit → Act → World → Prop) : Prop where
  go : ∀ a m, Fit N e a → c.wp P Q a (at' w m)

structure WL (P : Program) (N : Nat) (ops : Array Oper) (l : List Oper) (e : Env) (w : World) (Q : Exit → Act → World → Prop) : Prop where
  go : ∀ a m, Fit N e a → wpList P ops Q l a (at' w m)

section rules
variable {P : Program} {N : Nat} {e : Env} {w : World} {Q : Exit → Act → World → Prop}

theorem W.sub {c : Code} (e' : Env) (hs : Sub e' e) (h : W P N c e' w Q) : W P N c e w Q := ⟨fun a m hf => h.go a m (hf.sub (e := e) (e' := e') hs)⟩

theorem W.seq {x y : Code} (h : W P N x e w (Exit.then (y.wp P Q) Q)) : W P N (.seq x y) e w Q := ⟨fun a m hf => wp_seq (h.go a m hf)⟩
theorem W.block {id : Nat} {c : Code} (h : W P N c e w (Exit.inBlock id Q)) : W P N (.block id c) e w Q := ⟨fun a m hf => wp_block (h.go a m hf)⟩
theorem W.skip (h : Z N Q .normal e w) : W P N .skip e w Q := ⟨fun a m hf => wp_skip (h.go a m hf)⟩
theorem W.ret (h : Z N Q .ret e w) : W P N .ret e w Q := ⟨fun a m hf => wp_ret (h.go a m hf)⟩
theorem W.exit {id : Nat} (h : Z N Q (.exit id) e w) : W P N (.exit id) e w Q := ⟨fun a m hf => wp_exit (h.go a m hf)⟩

theorem W.condT {c : Operand} {x y : Code} (hc : ev e c = some (.bool true)) (h : W P N x e w Q) : W P N (.cond c x y) e w Q :=
  ⟨fun a m hf => wp_cond_true (hf.eval hc) (h.go a m hf)⟩
theorem W.condF {c : Operand} {x y : Code} (hc : ev e c = some (.bool false)) (h : W P N y e w Q) : W P N (.cond c x y) e w Q :=
  ⟨fun a m hf => wp_cond_false (hf.eval hc) (h.go a m hf)⟩
theorem W.condD {c : Operand} {x y : Code} {p : Prop} (hc : ev e c = some (.bool (dec p))) (ht : p → W P N x e w Q) (hf' : ¬ p → W P N y e w Q) : W P N (.cond c x y) e w Q := by
  by_cases hp : p
  · exact W.condT (by rw [hc, dec_true hp]) (ht hp)
  · exact W.condF (by rw [hc, dec_false hp]) (hf' hp)
theorem W.condN {c : Operand} {x y : Code} {p : Prop} (hc : ev e c = some (.bool (!dec p))) (ht : ¬ p → W P N x e w Q) (hf' : p → W P N y e w Q) : W P N (.cond c x y) e w Q := by
  by_cases hp : p
  · exact W.condF (by rw [hc, dec_true hp]; rfl) (hf' hp)
  · exact W.condT (by rw [hc, dec_false hp]; rfl) (ht hp)
theorem Z.then_normal {y : Code} (h : W P N y e w Q) : Z N (Exit.then (y.wp P Q) Q) .normal e w := ⟨h.go⟩
theorem Z.then_exit {K : Act → World → Prop} {id : Nat} (h : Z N Q (.exit id) e w) : Z N (Exit.then K Q) (.exit id) e w := ⟨h.go⟩
theorem Z.then_ret {K : Act → World → Prop} (h : Z N Q .ret e w) : Z N (Exit.then K Q) .ret e w := ⟨h.go⟩
theorem Z.block_normal {id : Nat} (h : Z N Q .normal e w) : Z N (Exit.inBlock id Q) .normal e w := ⟨h.go⟩
theorem Z.block_ret {id : Nat} (h : Z N Q .ret e w) : Z N (Exit.inBlock id Q) .ret e w := ⟨h.go⟩
theorem Z.block_exit {id : Nat} (h : Z N Q .normal e w) : Z N (Exit.inBlock id Q) (.exit id) e w := ⟨fun a m hf => by
  simp only [Exit.inBlock, if_true]; exact h.go a m hf⟩
/-- A region in the text's order. -/
theorem W.region {id : Nat} {l : List Oper} (h : WL P N l.toArray l e w Q) : W P N (.region id l.toArray false) e w Q :=
  ⟨fun a m hf => wp_region_lit (h.go a m hf)⟩

theorem WL.nil {ops : Array Oper} (h : Z N Q .normal e w) : WL P N ops [] e w Q := ⟨fun a m hf => wpList_nil (h.go a m hf)⟩

/-- A loop: the states 's' of its heads, the slots that they name, their worlds, a measure. -/
theorem W.loop {σ : Type} {c : Code} (I : σ → Prop) (E : σ → Env) (U : σ → World) (μ : σ → Nat)
    (s0 : σ) (h0 : I s0) (hE : Sub (E s0) e) (hU : U s0 = w)
    (round : ∀ s, I s → W P N c (E s) (U s) (Exit.then (fun a w' => ∃ s', I s' ∧ μ s' < μ s ∧ Fit N (E s') a ∧ ∃ m, w' = at' (U s') m) Q)) :
    W P N (.loop c) e w Q := by
  refine ⟨fun a m hf => ?_⟩
  subst hU
  refine wp_loop_ghost (fun k a' w' => ∃ s n, I s ∧ μ s = k ∧ Fit N (E s) a' ∧ w' = at' (U s) n) (μ s0) ⟨s0, m, h0, rfl, hf.sub (e := e) (e' := E s0) hE, rfl⟩ ?_
  rintro k a' w' ⟨s, n, h1, rfl, h3, rfl⟩
  refine wp_mono ((round s h1).go a' n h3) fun x a'' w'' hq => ?_
  cases x with
  | normal => obtain ⟨s', k1, k2, k3, n', k4⟩ := hq; exact ⟨μ s', k2, s', n', k1, rfl, k3, k4⟩
  | _ => exact hq

/-- A cut: what holds behind x, whatever the way. -/
theorem W.cut {σ : Type} {x y : Code} (I : σ → Prop) (E : σ → Env) (U : σ → World)
    (h : W P N x e w (Exit.then (fun a w' => ∃ s, I s ∧ Fit N (E s) a ∧ ∃ m, w' = at' (U s) m) Q))
    (k : ∀ s, I s → W P N y (E s) (U s) Q) : W P N (.seq x y) e w Q := ⟨fun a m hf => by
  refine wp_seq (wp_mono (h.go a m hf) fun ex a' w' hq => ?_)
  cases ex with
  | normal => obtain ⟨s, h1, h2, n, h3⟩ := hq; subst h3; exact (k s h1).go a' n h2
  | _ => exact hq⟩

theorem Z.cut {σ : Type} {I : σ → Prop} {E : σ → Env} {U : σ → World} (s : σ) (h1 : I s) (h3 : Sub (E s) e) (h4 : U s = w) :
    Z N (Exit.then (fun a w' => ∃ s, I s ∧ Fit N (E s) a ∧ ∃ m, w' = at' (U s) m) Q) .normal e w :=
  ⟨fun a m hf => ⟨s, h1, hf.sub (e := e) (e' := E s) h3, m, by rw [h4]⟩⟩
end rules

/-- The call returns a value and leaves a world of which R is so, whatever the count of draws. -/
def Callable (P : Program) (f : FuncId) : Prop := ∃ fn, P.funcs[f]? = some fn ∧ fn.body ≠ none ∧ fn.name ≠ "runtime.NumGoroutine"

structure Spec (P : Program) (f : FuncId) (args : List Value) (w : World) (R : Value → World → Prop) : Prop where
  callable : Callable P f
  go : ∀ m, Calls P f args.toArray (at' w m) fun x w' => ∃ v, x = .returned v ∧ R v w'

theorem Spec.mono {P : Program} {f : FuncId} {args : List Value} {w : World} {R R' : Value → World → Prop} (h : Spec P f args w R) (k : ∀ v w', R v w' → R' v w') : Spec P f args w R' :=
  ⟨h.1, fun m => (h.2 m).mono fun _ _ ⟨v, hx, hr⟩ => ⟨v, hx, k _ _ hr⟩⟩

theorem Callable.run {P : Program} {f : FuncId} (h : Callable P f) (args : Array Value) (w : World) : (callFunc f args).run P w = .ok (.enter f args) w := by
  obtain ⟨fn, h1, h2, h3⟩ := h
  simp [callFunc, program, Sem.run, h1, h2, h3]

/-- The slots of a call's beginning. -/
def entry : Nat → List Value → Env
  | _, [] => []
  | i, v :: r => (i, v) :: entry (i + 1) r

theorem get_entry (args : List Value) : ∀ (i t : Nat) (v : Value), get (entry i args) t = some v → i ≤ t ∧ args[t - i]? = some v := by
  induction args with
  | nil => intro i t v h; cases h
  | cons x r ih =>
    intro i t v h
    simp only [entry] at h
    rw [get_cons] at h
    by_cases hit : i = t
    · subst hit; rw [if_pos rfl] at h; simpa using h
    · rw [if_neg hit] at h
      obtain ⟨h1, h2⟩ := ih (i + 1) t v h
      refine ⟨by omega, ?_⟩
      have : t - i = (t - (i + 1)) + 1 := by omega
      rw [this]; simpa using h2

theorem Spec.of {P : Program} {f : FuncId} {fn : Func} {c : Code} {args : List Value} {w : World} {R : Value → World → Prop} (N : Nat)
    (hf : P.funcs[f]? = some fn) (hb : fn.body = some c) (hN : fn.ntmps = N) (hname : (fn.name == "runtime.NumGoroutine") = false) (ha : Nat.ble args.length N = true)
    (h : W P N c (entry 0 args) w (bodyPost P fn fun x w' => ∃ v, x = .returned v ∧ R v w')) : Spec P f args w R := by
  refine ⟨⟨fn, hf, by rw [hb]; simp, by simpa using hname⟩, fun m => ?_⟩
  refine calls_of_wp hf hb (h.go _ m ⟨?_, rfl, ?_⟩)
  · have := Nat.le_of_ble_eq_true ha
    simp [hN]; omega
  · intro t v hv
    obtain ⟨_, h2⟩ := get_entry args 0 t v hv
    simp only [Nat.sub_zero] at h2
    have hl : t < args.length := (List.getElem?_eq_some_iff.1 h2).1
    rw [Array.getElem?_append_left (by simpa using hl)]
    simpa using h2

theorem Z.body1 {P : Program} {fn : Func} {N : Nat} {e : Env} {w : World} {R : Value → World → Prop} {t : Nat} {v : Value} (hr : fn.results = #[.tmp t]) (hv : get e t = some v) (hR : ∀ m, R v (at' w m)) :
    Z N (bodyPost P fn fun x w' => ∃ v, x = .returned v ∧ R v w') .ret e w := ⟨fun a m hf =>
  bodyPost_ret (v := v) (by rw [results_tmp hr]; have := hf.slots _ _ hv; simp [Array.getD_eq_getD_getElem?, this]) hf.defers ⟨v, rfl, hR m⟩⟩

theorem Z.body2 {P : Program} {fn : Func} {N : Nat} {e : Env} {w : World} {R : Value → World → Prop} {t u : Nat} {v x : Value} (hr : fn.results = #[.tmp t, .tmp u]) (hv : get e t = some v) (hx : get e u = some x) (hR : ∀ m, R (.tuple #[v, x]) (at' w m)) :
    Z N (bodyPost P fn fun x w' => ∃ v, x = .returned v ∧ R v w') .ret e w := ⟨fun a m hf =>
  bodyPost_ret (v := .tuple #[v, x]) (by rw [results_tmp2 hr]; have h1 := hf.slots _ _ hv; have h2 := hf.slots _ _ hx; simp [Array.getD_eq_getD_getElem?, h1, h2]) hf.defers ⟨_, rfl, hR m⟩⟩

end Go.Lt
namespace Go.Lt
open Go.RowKit
set_option linter.unusedVariables false
set_option linter.unusedSimpArgs false

structure TI where
  desc : TypeDesc
  size : Nat
  bytes : Nat
  zero : Value

abbrev Tab := List (Nat × TI)

def tget : Tab → Nat → Option TI
  | [], _ => none
  | (k, v) :: r, t => bif Nat.beq k t then some v else tget r t

def TI.Ok (P : Program) (t : Nat) (i : TI) : Prop := P.underlying t = some i.desc ∧ (P.info? t).map (fun j => (j.size, j.bytes, j.zero)) = some (i.size, i.bytes, some i.zero)

def OkTab (P : Program) : Tab → Prop
  | [] => True
  | (t, i) :: r => i.Ok P t ∧ OkTab P r

theorem OkTab.at {P : Program} : ∀ {T : Tab} {t : Nat} {i : TI}, OkTab P T → tget T t = some i → i.Ok P t
  | (k, v) :: r, t, i, h, hg => by
    unfold tget at hg
    cases hb : Nat.beq k t with
    | true =>
      rw [hb] at hg; simp only [cond_true, Option.some.injEq] at hg; subst hg
      rw [← Nat.eq_of_beq_eq_true hb]; exact h.1
    | false => rw [hb] at hg; exact OkTab.at h.2 hg

theorem TI.Ok.info {P : Program} {t : Nat} {i : TI} (h : i.Ok P t) : ∃ j, P.info? t = some j ∧ j.size = i.size ∧ j.bytes = i.bytes ∧ j.zero = some i.zero := by
  obtain ⟨j, hj, hjj⟩ := Option.map_eq_some_iff.1 h.2
  simp only [Prod.mk.injEq] at hjj
  exact ⟨j, hj, hjj.1, hjj.2.1, hjj.2.2⟩

def isAggD : TypeDesc → Bool
  | .struct _ | .array _ _ => true
  | _ => false

section runs
variable {P : Program}
theorem run_underlying' {t : Nat} {i : TI} (h : i.Ok P t) (w : World) : (underlying t).run P w = .ok i.desc w := by
  simp [underlying, program, Sem.run, h.1]
theorem run_typeInfo' {t : Nat} {j : TypeInfo} (h : P.info? t = some j) (w : World) : (typeInfo t).run P w = .ok j w := by
  simp [typeInfo, program, Sem.run, h]
theorem run_sizeOf' {t : Nat} {i : TI} (h : i.Ok P t) (w : World) : (sizeOf t).run P w = .ok i.size w := by
  obtain ⟨j, h1, h2, _⟩ := h.info
  simp [sizeOf, run_typeInfo' h1, h2]
theorem run_isAgg' {t : Nat} {i : TI} (h : i.Ok P t) (w : World) : (isAgg t).run P w = .ok (isAggD i.desc) w := by
  simp only [isAgg, Sem.run_bind, run_underlying' h, Result.andThen_ok]
  cases i.desc <;> rfl
theorem run_zeroValue' {t : Nat} {i : TI} (h : i.Ok P t) (w : World) : (zeroValue t).run P w = .ok i.zero w := by
  obtain ⟨j, h1, _, _, h4⟩ := h.info
  simp [zeroValue, run_typeInfo' h1, h4]
end runs

/-- Whatever the world: the operation yields v. -/
def Yields (P : Program) (e : Env) (o : Oper) (v : Value) : Prop := ∀ (ρ : Operand → Value), (∀ x u, ev e x = some u → ρ x = u) → ∀ w, (execOp ρ o).run P w = .ok (.value v) w

/-- .. in the world w, whatever the count of draws. -/
def YieldsAt (P : Program) (e : Env) (w : World) (o : Oper) (v : Value) : Prop := ∀ (ρ : Operand → Value), (∀ x u, ev e x = some u → ρ x = u) → ∀ m, (execOp ρ o).run P (at' w m) = .ok (.value v) (at' w m)

theorem Yields.at {P : Program} {e : Env} {w : World} {o : Oper} {v : Value} (h : Yields P e o v) : YieldsAt P e w o v := fun ρ hρ m => h ρ hρ _

noncomputable def cmpv (op : BinOp) (a b : Int) : Option Value :=
  match op with
  | .eql => some (.bool (dec (a = b)))
  | .neq => some (.bool (dec (a ≠ b)))
  | .lss => some (.bool (dec (a < b)))
  | .leq => some (.bool (dec (a ≤ b)))
  | .gtr => some (.bool (dec (b < a)))
  | .geq => some (.bool (dec (b ≤ a)))
  | _ => none

/-- Arithmetic that goes round; what may be told at once. -/
def arith (op : BinOp) (k : IntKind) (a b : Int) : Option Value :=
  match op with
  | .add => some (.int k (k.wrap (a + b)))
  | .sub => some (.int k (k.wrap (a - b)))
  | .mul => some (.int k (k.wrap (a * b)))
  | .and => some (.int k (k.wrap (BitVec.ofInt k.bits a &&& BitVec.ofInt k.bits b).toNat))
  | .or => some (.int k (k.wrap (BitVec.ofInt k.bits a ||| BitVec.ofInt k.bits b).toNat))
  | .xor => some (.int k (k.wrap (BitVec.ofInt k.bits a ^^^ BitVec.ofInt k.bits b).toNat))
  | .andNot => some (.int k (k.wrap (BitVec.ofInt k.bits a &&& ~~~ BitVec.ofInt k.bits b).toNat))
  | _ => none

def kindEq : IntKind → IntKind → Bool
  | .i8, .i8 | .i16, .i16 | .i32, .i32 | .i64, .i64 | .u8, .u8 | .u16, .u16 | .u32, .u32 | .u64, .u64 => true
  | _, _ => false
theorem kindEq_eq : ∀ {j k : IntKind}, kindEq j k = true → j = k := by intro j k; cases j <;> cases k <;> simp [kindEq]

noncomputable def pbin (op : BinOp) : Value → Value → Option Value
  | .int k a, .int k' b =>
    bif kindEq k k' then
      (match cmpv op a b with
       | some v => some v
       | none => arith op k a b)
    else none
  | .bool a, .bool b =>
    (match op with
     | .eql => some (.bool (dec (a = b)))
     | .neq => some (.bool (dec (a ≠ b)))
     | _ => none)
  | _, _ => none

def isBoolD : TypeDesc → Bool | .bool => true | _ => false

theorem run_binOp_int (P : Program) (op : BinOp) (t : TypeId) (k : IntKind) (a b : Int) (v : Value) (h : pbin op (.int k a) (.int k b) = some v) (w : World) :
    (binOp op t (.int k a) (.int k b)).run P w = .ok v w := by
  have hk : kindEq k k = true := by cases k <;> rfl
  simp only [pbin, hk, cond_true] at h
  cases op <;> simp only [cmpv, arith, Option.some.injEq, reduceCtorEq] at h <;> subst h <;>
    simp [binOp, Op.intArith, Op.intCmp, Op.intBits, Sem.run, pure, dec_decide] <;> (try rfl) <;>
    (try (by_cases hab : a = b <;> simp [hab, bne]))

theorem eqGuard_int (P : Program) (op : BinOp) (t : TypeId) (x y : Operand) (k j : IntKind) (a b : Int) (w : World) : (eqGuard op t x y (.int k a) (.int j b)).run P w = .ok () w := by
  unfold eqGuard; split <;> simp
theorem eqGuard_bool (P : Program) (op : BinOp) (t : TypeId) (x y : Operand) (a b : Bool) (w : World) : (eqGuard op t x y (.bool a) (.bool b)).run P w = .ok () w := by
  unfold eqGuard; split <;> simp

def isBoolT (T : Tab) (t : TypeId) : Bool :=
  match tget T t with
  | some i => isBoolD i.desc
  | none => false

theorem run_binOp_bool {P : Program} {T : Tab} (hT : OkTab P T) (op : BinOp) (t : TypeId) (a b : Bool) (v : Value) (ht : isBoolT T t = true) (h : pbin op (.bool a) (.bool b) = some v) (w : World) :
    (binOp op t (.bool a) (.bool b)).run P w = .ok v w := by
  unfold isBoolT at ht
  split at ht
  · rename_i i hi
    have ho := hT.at hi
    have hd : i.desc = .bool := by cases hd : i.desc <;> rw [hd] at ht <;> simp [isBoolD] at ht <;> rfl
    have hr : ∀ w, (Op.equal t (.bool a) (.bool b)).run P w = .ok (a == b) w := by
      intro w
      have hu := run_underlying' ho
      rw [hd] at hu
      have hmx : Op.maxDepth = 9999 + 1 := rfl
      unfold Op.equal
      rw [hmx, Op.equalIn]
      simp only [Sem.run_bind, hu, Result.andThen_ok]
      rfl
    cases op <;> simp only [pbin, Option.some.injEq, reduceCtorEq] at h <;> subst h <;> simp [binOp, hr, dec_decide] <;> cases a <;> cases b <;> rfl
  · cases ht

def puno : UnOp → Value → Option Value
  | .not, .bool b => some (.bool (!b))
  | _, _ => none

def fieldOf (T : Tab) (s f : Nat) : Option (Nat × TI) :=
  match tget T s with
  | some i =>
    (match i.desc with
     | .struct fs =>
       (match fs[f]? with
        | some fd =>
          (match tget T fd.type with
           | some j => some (fd.offset, j)
           | none => none)
        | none => none)
     | _ => none)
  | none => none

def lenv (T : Tab) (t : Nat) (v : Value) : Option Value :=
  match v with
  | .slice _ n _ =>
    (match tget T t with
     | some i => (match i.desc with | .slice _ => some (.int .i64 n) | _ => none)
     | none => none)
  | .string s =>
    (match tget T t with
     | some i => (match i.desc with | .string => some (.int .i64 s.size) | _ => none)
     | none => none)
  | _ => none

def evs (e : Env) : List Operand → Option (List Value)
  | [] => some []
  | x :: r =>
    (match ev e x with
     | some v =>
       (match evs e r with
        | some vs => some (v :: vs)
        | none => none)
     | none => none)

/-- '+', '-', '*' on int are left to rules of their own. -/
def roundsOff : BinOp → IntKind → Bool
  | .add, .i64 => true
  | .sub, .i64 => true
  | .mul, .i64 => true
  | _, _ => false

def nthv : List Value → Nat → Option Value
  | [], _ => none
  | v :: _, 0 => some v
  | _ :: r, n + 1 => nthv r n
theorem nthv_eq (l : List Value) (n : Nat) : l[n]? = nthv l n := by
  induction l generalizing n with
  | nil => simp [nthv]
  | cons v r ih => cases n <;> simp [nthv, ih]

/-- What an operation that only computes yields. -/
noncomputable def pev (T : Tab) (e : Env) : Op → Option Value
  | .move x => ev e x
  | .assign x => ev e x
  | .pick c a b =>
    (match ev e c with
     | some (.bool c) => bif c then ev e a else ev e b
     | _ => none)
  | .binOp op t x y _ =>
    (match ev e x with
     | some (.int k a) =>
       (match ev e y with
        | some (.int j b) => bif roundsOff op k then none else pbin op (.int k a) (.int j b)
        | _ => none)
     | some (.bool a) =>
       (match ev e y with
        | some (.bool b) => bif isBoolT T t then pbin op (.bool a) (.bool b) else none
        | _ => none)
     | _ => none)
  | .unOp op _ x =>
    (match ev e x with
     | some v => puno op v
     | none => none)
  | .convert s d x =>
    (match ev e x with
     | some (.int _ n) =>
       (match tget T s with
        | some i =>
          (match i.desc with
           | .int _ =>
             (match tget T d with
              | some j => (match j.desc with | .int k => some (.int k (k.wrap n)) | _ => none)
              | none => none)
           | _ => none)
        | none => none)
     | _ => none)
  | .fieldAddr s x f =>
    (match ev e x with
     | some (.pointer (some ⟨b, off, none⟩)) =>
       (match fieldOf T s f with
        | some (o, j) => bif Nat.beq j.size 0 then none else some (.pointer (some ⟨b, off + o, none⟩))
        | none => none)
     | _ => none)
  | .field s x f =>
    (match ev e x with
     | some (.agg cs) =>
       (match fieldOf T s f with
        | some (o, j) => bif isAggD j.desc then some (.agg (cs.extract o (o + j.size))) else nthv cs.toList o
        | none => none)
     | _ => none)
  | .extract x i =>
    (match ev e x with
     | some (.tuple ⟨vs⟩) => nthv vs i
     | _ => none)
  | .call { callee := .builtin .len, args := ⟨[x]⟩, argTypes := ⟨[t]⟩ } =>
    (match ev e x with
     | some v => lenv T t v
     | none => none)
  | .makeFunc fn ⟨first⟩ ⟨captured⟩ =>
    (match evs e first with
     | some vs =>
       (match evs e captured with
        | some us => some (.func fn vs.toArray us.toArray)
        | none => none)
     | none => none)
  | _ => none

theorem evs_map {e : Env} {ρ : Operand → Value} (hρ : ∀ x u, ev e x = some u → ρ x = u) : ∀ {l : List Operand} {vs : List Value}, evs e l = some vs → l.map ρ = vs
  | [], vs, h => by simp [evs] at h; simp [h]
  | x :: r, vs, h => by
    unfold evs at h
    split at h
    · rename_i v hv
      split at h
      · rename_i us hus
        simp only [Option.some.injEq] at h; subst h
        simp [hρ _ _ hv, evs_map hρ hus]
      · cases h
    · cases h

theorem Addr_add_none (b off n : Nat) : (⟨b, off, none⟩ : Addr).add n = ⟨b, off + n, none⟩ := by
  unfold Addr.add; split <;> simp_all

theorem pev_yields {P : Program} {T : Tab} (hT : OkTab P T) {e : Env} {d : Option Tmp} {op : Op} {tt : TypeId} {ps : String} {af : Array Edge} {g : Option (Nat × Bool)} {v : Value}
    (h : pev T e op = some v) : Yields P e ⟨d, op, tt, ps, af, g⟩ v := by
  intro ρ hρ w
  unfold pev at h
  split at h
  · simp [execOp, hρ _ _ h]
  · simp [execOp, hρ _ _ h]
  · split at h
    · rename_i c a b _ c' hc
      cases c' <;> simp only [cond_true, cond_false] at h <;> simp [execOp, hρ _ _ hc, hρ _ _ h, asBool]
    · cases h
  · split at h
    · rename_i op0 t0 x0 y0 ty0 _ k a hx
      split at h
      · rename_i j b hy
        have h : pbin op0 (.int k a) (.int j b) = some v := by
          revert h
          cases roundsOff op0 k <;> simp
        have hk : k = j := by
          simp only [pbin] at h
          cases hb : kindEq k j with
          | true => exact kindEq_eq hb
          | false => rw [hb] at h; cases h
        subst hk
        simp [execOp, hρ _ _ hx, hρ _ _ hy, eqGuard_int, run_binOp_int P _ _ k a b v h]
      · cases h
    · rename_i op' t x y ty _ a hx
      split at h
      · rename_i b hy
        cases hb : isBoolT T t with
        | true =>
          rw [hb] at h; simp only [cond_true] at h
          simp [execOp, hρ _ _ hx, hρ _ _ hy, eqGuard_bool, run_binOp_bool hT _ _ a b v hb h]
        | false => rw [hb] at h; cases h
      · cases h
    · cases h
  · split at h
    · rename_i x _ u hx
      unfold puno at h
      split at h
      · simp only [Option.some.injEq] at h; subst h; simp [execOp, hρ _ _ hx, Op.unary]
      · cases h
    · cases h
  · split at h
    · rename_i s d x _ k n hx
      split at h
      · rename_i i hi
        split at h
        · rename_i ki hdi
          split at h
          · rename_i j hj
            split at h
            · rename_i kj hdj
              simp only [Option.some.injEq] at h; subst h
              have h1 := run_underlying' (hT.at hi); rw [hdi] at h1
              have h2 := run_underlying' (hT.at hj); rw [hdj] at h2
              simp [execOp, hρ _ _ hx, convert, h1, h2, Conv.intToInt]
            · cases h
          · cases h
        · cases h
      · cases h
    · cases h
  · split at h
    · rename_i s x f _ b off hx
      split at h
      · rename_i o j hf
        cases hz : Nat.beq j.size 0 with
        | true => rw [hz] at h; cases h
        | false =>
          rw [hz] at h; simp only [cond_false, Option.some.injEq] at h; subst h
          unfold fieldOf at hf
          split at hf
          · rename_i i hi
            split at hf
            · rename_i fs hd
              split at hf
              · rename_i fd hfd
                split at hf
                · rename_i j' hj
                  simp only [Option.some.injEq, Prod.mk.injEq] at hf
                  obtain ⟨rfl, rfl⟩ := hf
                  have h1 := run_underlying' (hT.at hi); rw [hd] at h1
                  have h2 := run_sizeOf' (hT.at hj)
                  have hz' : j'.size ≠ 0 := fun hh => by rw [hh] at hz; cases hz
                  simp [execOp, hρ _ _ hx, Instr.fieldAt, h1, hfd, Instr.sureAddr, fieldPlace, h2, hz', Addr_add_none]
                · cases hf
              · cases hf
            · cases hf
          · cases hf
      · cases h
    · cases h
  · split at h
    · rename_i s x f _ cs hx
      split at h
      · rename_i o j hf
        unfold fieldOf at hf
        split at hf
        · rename_i i hi
          split at hf
          · rename_i fs hd
            split at hf
            · rename_i fd hfd
              split at hf
              · rename_i j' hj
                simp only [Option.some.injEq, Prod.mk.injEq] at hf
                obtain ⟨rfl, rfl⟩ := hf
                have h1 := run_underlying' (hT.at hi); rw [hd] at h1
                have h2 := run_sizeOf' (hT.at hj)
                have h3 := run_isAgg' (hT.at hj)
                cases hz : isAggD j'.desc with
                | true =>
                  rw [hz] at h h3; simp only [cond_true, Option.some.injEq] at h; subst h
                  simp [execOp, hρ _ _ hx, Instr.field, h1, hfd, asAgg, part, h2, h3]
                | false =>
                  rw [hz] at h h3; simp only [cond_false] at h
                  rw [← nthv_eq, Array.getElem?_toList] at h
                  simp [execOp, hρ _ _ hx, Instr.field, h1, hfd, asAgg, part, h2, h3, h]
              · cases hf
            · cases hf
          · cases hf
        · cases hf
      · cases h
    · cases h
  · split at h
    · rename_i x i _ vs hx
      rw [← nthv_eq] at h
      simp [execOp, hρ _ _ hx, Instr.extract, h]
    · cases h
  · split at h
    · rename_i x t _ u hx
      unfold lenv at h
      split at h
      · split at h
        · rename_i i hi
          split at h
          · rename_i el hd
            simp only [Option.some.injEq] at h; subst h
            have h1 := run_underlying' (hT.at hi); rw [hd] at h1
            simp [execOp, resolve, invoke, builtin, hρ _ _ hx, Builtin.len_, h1, goInt]
          · cases h
        · cases h
      · split at h
        · rename_i i hi
          split at h
          · rename_i hd
            simp only [Option.some.injEq] at h; subst h
            have h1 := run_underlying' (hT.at hi); rw [hd] at h1
            simp [execOp, resolve, invoke, builtin, hρ _ _ hx, Builtin.len_, h1, goInt]
          · cases h
        · cases h
      · cases h
    · cases h
  · split at h
    · rename_i first captured _ vs hvs
      split at h
      · rename_i us hus
        simp only [Option.some.injEq] at h; subst h
        simp [execOp, Instr.makeFunc, evs_map hρ hvs, evs_map hρ hus]
      · cases h
    · cases h
  · cases h

end Go.Lt
namespace Go.Lt
open Go.RowKit
set_option linter.unusedVariables false
set_option linter.unusedSimpArgs false

/-- The slot that operation number j writes. -/
def dstAt : List Oper → Nat → Option Nat
  | [], _ => none
  | o :: _, 0 => o.dst
  | _ :: r, j + 1 => dstAt r j

theorem dstAt_eq (l : List Oper) (j : Nat) : (l.toArray[j]?).bind (·.dst) = dstAt l j := by
  induction l generalizing j with
  | nil => simp [dstAt]
  | cons o r ih =>
    cases j with
    | zero => simp [dstAt]
    | succ j => have := ih j; simpa [dstAt] using this

/-- What the guard says, where it is known. -/
def gate (ops : List Oper) (e : Env) : Option (Nat × Bool) → Option Bool
  | none => some true
  | some (j, b) =>
    (match dstAt ops j with
     | some d =>
       (match get e d with
        | some (.bool c) => some (bif c then b else !b)
        | some (.tuple _) => some false
        | _ => none)
     | none => none)

theorem gate_wanted {N : Nat} {ops : List Oper} {e : Env} {a : Act} (h : Fit N e a) {o : Oper} {r : Bool} (hg : gate ops e o.guard = some r) : Region.wanted o (yielded ops.toArray a.tmps) = r := by
  unfold Region.wanted
  unfold gate at hg
  split at hg
  · rename_i hgd; rw [hgd]; simpa using hg
  · rename_i j b hgd
    rw [hgd]
    simp only
    unfold yielded
    rw [dstAt_eq]
    split at hg
    · rename_i d hd
      rw [hd]
      split at hg
      · rename_i c hc
        simp only [Option.some.injEq] at hg
        simp only [Option.bind_some, h.slots _ _ hc]
        cases c <;> cases b <;> simp at hg <;> subst hg <;> rfl
      · rename_i x hc
        simp only [Option.some.injEq] at hg; subst hg
        simp only [Option.bind_some, h.slots _ _ hc]
        rfl
      · cases hg
    · cases hg

/-- The worlds that are w but for draws. -/
abbrev Same (w : World) : World → Prop := fun w' => ∃ m, w' = at' w m

/-- Whatever the world of the class. -/
def YieldsIn (P : Program) (e : Env) (C : World → Prop) (o : Oper) (v : Value) : Prop := ∀ (ρ : Operand → Value), (∀ x u, ev e x = some u → ρ x = u) → ∀ w, C w → (execOp ρ o).run P w = .ok (.value v) w

theorem Yields.in {P : Program} {e : Env} {C : World → Prop} {o : Oper} {v : Value} (h : Yields P e o v) : YieldsIn P e C o v := fun ρ hρ w _ => h ρ hρ w

section seq
variable {P : Program} {N : Nat} {e : Env} {w : World} {Q : Exit → Act → World → Prop} {ops : List Oper} {l : List Oper}

theorem WL.guardF {d : Nat} {op : Op} {tt : TypeId} {ps : String} {af : Array Edge} {g : Option (Nat × Bool)} (hg : gate ops e g = some false) (hd : Nat.blt d N = true)
    (k : WL P N ops.toArray l ((d, undef) :: e) w Q) : WL P N ops.toArray (⟨some d, op, tt, ps, af, g⟩ :: l) e w Q := by
  refine ⟨fun a m hf => ?_⟩
  unfold wpList
  rw [if_neg (by rw [gate_wanted hf (o := ⟨some d, op, tt, ps, af, g⟩) hg]; simp)]
  exact k.go _ m (hf.put (by simpa [Nat.blt_eq] using hd) undef)

theorem WL.step {d : Nat} {op : Op} {tt : TypeId} {ps : String} {af : Array Edge} {g : Option (Nat × Bool)} {v : Value} (hg : gate ops e g = some true) (hd : Nat.blt d N = true)
    (h : YieldsIn P e (Same w) ⟨some d, op, tt, ps, af, g⟩ v) (k : WL P N ops.toArray l ((d, v) :: e) w Q) : WL P N ops.toArray (⟨some d, op, tt, ps, af, g⟩ :: l) e w Q := by
  refine ⟨fun a m hf => ?_⟩
  unfold wpList
  rw [if_pos (by rw [gate_wanted hf (o := ⟨some d, op, tt, ps, af, g⟩) hg])]
  refine .inl ?_
  unfold Oper.wp
  rw [h a.eval (fun x u hx => hf.eval hx) _ ⟨m, rfl⟩]
  exact k.go _ m (hf.put (by simpa [Nat.blt_eq] using hd) v)

/-- A bool in a slot becomes known. -/
theorem WL.split {d : Nat} {b : Bool} (hd : get e d = some (.bool b)) (ht : b = true → WL P N ops.toArray l ((d, .bool true) :: e) w Q) (hf : b = false → WL P N ops.toArray l ((d, .bool false) :: e) w Q) : WL P N ops.toArray l e w Q := by
  refine ⟨fun a m h => ?_⟩
  cases b
  · exact (hf rfl).go a m (h.shadow hd)
  · exact (ht rfl).go a m (h.shadow hd)
/-- A call of a Go function, by its contract. -/
theorem WL.call {d : Nat} {f : FuncId} {args : List Operand} {ts : Array TypeId} {tt : TypeId} {ps : String} {af : Array Edge} {g : Option (Nat × Bool)} {c : Operand} {us vs : List Value} {R : Value → World → Prop}
    (hg : gate ops e g = some true) (hd : Nat.blt d N = true) (hc : ev e c = some (.func (.func f) #[] us.toArray)) (hv : evs e args = some vs)
    (h : Spec P f (vs ++ us) w R) (k : ∀ v w', R v w' → WL P N ops.toArray l ((d, v) :: e) w' Q) :
    WL P N ops.toArray (⟨some d, .call ⟨.value c, args.toArray, ts⟩, tt, ps, af, g⟩ :: l) e w Q := by
  refine ⟨fun a m hf => ?_⟩
  unfold wpList
  rw [if_pos (by rw [gate_wanted hf (o := ⟨some d, .call ⟨.value c, args.toArray, ts⟩, tt, ps, af, g⟩) hg])]
  refine .inl ?_
  unfold Oper.wp
  have hrun : (execOp a.eval ⟨some d, .call ⟨.value c, args.toArray, ts⟩, tt, ps, af, g⟩).run P (at' w m) = .ok (.enter f (vs ++ us).toArray) (at' w m) := by
    have h1 := evs_map (ρ := a.eval) (fun x u hx => hf.eval hx) hv
    have HC := h.1
    simp [execOp, resolve, hf.eval hc, Deferred.ofValue, invoke, HC.run, h1]
  rw [hrun]
  refine (h.2 m).mono ?_
  rintro x w' ⟨v, rfl, hR⟩
  exact (k v w' hR).go _ w'.drawn (hf.put (by simpa [Nat.blt_eq] using hd) v)

end seq

/-- What is asked of the operations of a region that draws: C is the class of the worlds that it may come by. -/
structure QL (P : Program) (N : Nat) (C : World → Prop) (ops : Array Oper) (l : List Oper) (e : Env) (Q : Exit → Act → World → Prop) : Prop where
  go : ∀ a, Fit N e a → wpQuiet P ops C (fun a' => ∀ w', C w' → Q .normal a' w') l a

section quiet
variable {P : Program} {N : Nat} {e : Env} {w : World} {Q : Exit → Act → World → Prop} {ops : List Oper} {l : List Oper} {C : World → Prop}

theorem W.regionD {id : Nat} {l : List Oper} (hm : P.follows .mixedOrders = true) (hB : Region.lexB .any l.toArray = true) (h : QL P N (Same w) l.toArray l e Q) : W P N (.region id l.toArray true) e w Q := by
  refine ⟨fun a m hf => ?_⟩
  refine wp_region_quiet (C := Same w) hm hB ⟨m + 1, rfl⟩ ?_
  simpa using h.go a hf

theorem QL.nil {ops : Array Oper} (h : Z N Q .normal e w) : QL P N (Same w) ops [] e Q := by
  refine ⟨fun a hf w' ⟨m, hw⟩ => ?_⟩
  subst hw; exact h.go a m hf
theorem QL.guardF {d : Nat} {op : Op} {tt : TypeId} {ps : String} {af : Array Edge} {g : Option (Nat × Bool)} (hg : gate ops e g = some false) (hd : Nat.blt d N = true)
    (k : QL P N C ops.toArray l ((d, undef) :: e) Q) : QL P N C ops.toArray (⟨some d, op, tt, ps, af, g⟩ :: l) e Q := by
  refine ⟨fun a hf => ?_⟩
  unfold wpQuiet
  rw [if_neg (by rw [gate_wanted hf (o := ⟨some d, op, tt, ps, af, g⟩) hg]; simp)]
  exact k.go _ (hf.put (by simpa [Nat.blt_eq] using hd) undef)

theorem QL.step {d : Nat} {op : Op} {tt : TypeId} {ps : String} {af : Array Edge} {g : Option (Nat × Bool)} {v : Value} (hg : gate ops e g = some true) (hd : Nat.blt d N = true)
    (h : YieldsIn P e C ⟨some d, op, tt, ps, af, g⟩ v) (k : QL P N C ops.toArray l ((d, v) :: e) Q) : QL P N C ops.toArray (⟨some d, op, tt, ps, af, g⟩ :: l) e Q := by
  refine ⟨fun a hf => ?_⟩
  unfold wpQuiet
  rw [if_pos (by rw [gate_wanted hf (o := ⟨some d, op, tt, ps, af, g⟩) hg])]
  refine ⟨v, fun w hw => ?_, k.go _ (hf.put (by simpa [Nat.blt_eq] using hd) v)⟩
  unfold Oper.quietAt
  rw [h a.eval (fun x u hx => hf.eval hx) w hw]
  exact ⟨rfl, rfl⟩

theorem QL.split {d : Nat} {b : Bool} (hd : get e d = some (.bool b)) (ht : b = true → QL P N C ops.toArray l ((d, .bool true) :: e) Q) (hf : b = false → QL P N C ops.toArray l ((d, .bool false) :: e) Q) : QL P N C ops.toArray l e Q := by
  refine ⟨fun a h => ?_⟩
  cases b
  · exact (hf rfl).go a (h.shadow hd)
  · exact (ht rfl).go a (h.shadow hd)
/-- A call that yields v, whatever the world of the class, and leaves one of the class. -/
theorem QL.call {d : Nat} {f : FuncId} {args : List Operand} {ts : Array TypeId} {tt : TypeId} {ps : String} {af : Array Edge} {g : Option (Nat × Bool)} {c : Operand} {us vs : List Value} {v : Value}
    (hg : gate ops e g = some true) (hd : Nat.blt d N = true) (hc : ev e c = some (.func (.func f) #[] us.toArray)) (hv : evs e args = some vs)
    (h : ∀ w, C w → Spec P f (vs ++ us) w (fun u w' => u = v ∧ C w')) (k : QL P N C ops.toArray l ((d, v) :: e) Q) :
    QL P N C ops.toArray (⟨some d, .call ⟨.value c, args.toArray, ts⟩, tt, ps, af, g⟩ :: l) e Q := by
  refine ⟨fun a hf => ?_⟩
  unfold wpQuiet
  rw [if_pos (by rw [gate_wanted hf (o := ⟨some d, .call ⟨.value c, args.toArray, ts⟩, tt, ps, af, g⟩) hg])]
  refine ⟨v, fun w hw => ?_, k.go _ (hf.put (by simpa [Nat.blt_eq] using hd) v)⟩
  unfold Oper.quietAt
  have hrun : (execOp a.eval ⟨some d, .call ⟨.value c, args.toArray, ts⟩, tt, ps, af, g⟩).run P w = .ok (.enter f (vs ++ us).toArray) w := by
    have h1 := evs_map (ρ := a.eval) (fun x u hx => hf.eval hx) hv
    have HC := (h w hw).1
    simp [execOp, resolve, hf.eval hc, Deferred.ofValue, invoke, HC.run, h1]
  rw [hrun]
  refine ⟨rfl, ((h w hw).2 w.drawn).mono ?_⟩
  rintro x w' ⟨u, rfl, rfl, hC⟩
  exact ⟨rfl, hC⟩
end quiet

/-- A contract of a function that answers v and only makes memory. -/
abbrev Pure (P : Program) (f : FuncId) (args : List Value) (w : World) (v : Value) : Prop := Spec P f args w fun u w' => u = v ∧ Ext w w'
/-- .. and not even that. -/
abbrev Still (P : Program) (f : FuncId) (args : List Value) (w : World) (v : Value) : Prop := Spec P f args w fun u w' => u = v ∧ Same w w'

theorem Still.pure {P : Program} {f : FuncId} {args : List Value} {w : World} {v : Value} (h : Still P f args w v) : Pure P f args w v :=
  Spec.mono h fun _ _ ⟨h1, m, h2⟩ => ⟨h1, by subst h2; exact (Ext.refl w).at m⟩

theorem quiet_ext {P : Program} {f : FuncId} {args : List Value} {w : World} {v : Value} (h : ∀ w', Ext w w' → Pure P f args w' v) : ∀ w', Ext w w' → Spec P f args w' (fun u w'' => u = v ∧ Ext w w'') :=
  fun w' hw => Spec.mono (h w' hw) fun _ _ ⟨h1, h2⟩ => ⟨h1, hw.trans h2⟩
theorem quiet_same {P : Program} {f : FuncId} {args : List Value} {w : World} {v : Value} (h : ∀ w', Same w w' → Still P f args w' v) : ∀ w', Same w w' → Spec P f args w' (fun u w'' => u = v ∧ Same w w'') :=
  fun w' hw => Spec.mono (h w' hw) fun _ _ ⟨h1, m, h2⟩ => ⟨h1, by obtain ⟨n, hn⟩ := hw; subst hn; exact ⟨m, h2⟩⟩
end Go.Lt
namespace Go.Lt
open Go.RowKit
set_option linter.unusedVariables false
set_option linter.unusedSimpArgs false

class Cls (C : World → Prop) (w : outParam World) : Prop where
  keeps : ∀ w', C w' → Ext w w'
instance (w : World) : Cls (Same w) w := ⟨fun _ ⟨m, h⟩ => by subst h; exact (Ext.refl w).at m⟩
instance (w : World) : Cls (Ext w) w := ⟨fun _ h => h⟩

theorem Yields.bin {P : Program} {e : Env} {d : Option Tmp} {op : BinOp} {t ty : TypeId} {x y : Operand} {tt : TypeId} {ps : String} {af : Array Edge} {g : Option (Nat × Bool)} {k : IntKind} {a b : Int} {v : Value}
    (hx : ev e x = some (.int k a)) (hy : ev e y = some (.int k b)) (h : pbin op (.int k a) (.int k b) = some v) : Yields P e ⟨d, .binOp op t x y ty, tt, ps, af, g⟩ v := by
  intro ρ hρ w
  simp [execOp, hρ _ _ hx, hρ _ _ hy, eqGuard_int, run_binOp_int P op t k a b v h]

theorem YieldsIn.at {P : Program} {e : Env} {w : World} {o : Oper} {v : Value} (h : YieldsIn P e (Same w) o v) : YieldsAt P e w o v := fun ρ hρ m => h ρ hρ _ ⟨m, rfl⟩

structure SL (P : Program) (N : Nat) (ops : Array Oper) (l : List Oper) (e : Env) (w : World) (K : Act → World → Prop) : Prop where
  go : ∀ a m, Fit N e a → wpStill P ops (at' w m) (fun a' => K a' (at' w m)) l a

section still
variable {P : Program} {N : Nat} {e : Env} {w : World} {Q : Exit → Act → World → Prop} {K : Act → World → Prop} {ops : List Oper} {l : List Oper}

theorem SL.nil {tail : List Oper} {ops : Array Oper} (h : WL P N ops tail e w Q) : SL P N ops [] e w (fun a w' => wpList P ops Q tail a w') := ⟨fun a m hf => h.go a m hf⟩

theorem SL.guardF {d : Nat} {op : Op} {tt : TypeId} {ps : String} {af : Array Edge} {g : Option (Nat × Bool)} (hg : gate ops e g = some false) (hd : Nat.blt d N = true)
    (k : SL P N ops.toArray l ((d, undef) :: e) w K) : SL P N ops.toArray (⟨some d, op, tt, ps, af, g⟩ :: l) e w K := by
  refine ⟨fun a m hf => ?_⟩
  unfold wpStill
  rw [if_neg (by rw [gate_wanted hf (o := ⟨some d, op, tt, ps, af, g⟩) hg]; simp)]
  exact k.go _ m (hf.put (by simpa [Nat.blt_eq] using hd) undef)

theorem SL.step {d : Nat} {op : Op} {tt : TypeId} {ps : String} {af : Array Edge} {g : Option (Nat × Bool)} {v : Value} (hg : gate ops e g = some true) (hd : Nat.blt d N = true)
    (h : YieldsIn P e (Same w) ⟨some d, op, tt, ps, af, g⟩ v) (k : SL P N ops.toArray l ((d, v) :: e) w K) : SL P N ops.toArray (⟨some d, op, tt, ps, af, g⟩ :: l) e w K := by
  refine ⟨fun a m hf => ?_⟩
  unfold wpStill
  rw [if_pos (by rw [gate_wanted hf (o := ⟨some d, op, tt, ps, af, g⟩) hg])]
  unfold Oper.still
  rw [h a.eval (fun x u hx => hf.eval hx) _ ⟨m, rfl⟩]
  exact ⟨rfl, k.go _ m (hf.put (by simpa [Nat.blt_eq] using hd) v)⟩

theorem SL.split {d : Nat} {b : Bool} (hd : get e d = some (.bool b)) (ht : b = true → SL P N ops.toArray l ((d, .bool true) :: e) w K) (hf : b = false → SL P N ops.toArray l ((d, .bool false) :: e) w K) : SL P N ops.toArray l e w K := by
  refine ⟨fun a m h => ?_⟩
  cases b
  · exact (hf rfl).go a m (h.shadow hd)
  · exact (ht rfl).go a m (h.shadow hd)
end still

section gsplit
variable {P : Program} {N : Nat} {e : Env} {w : World} {Q : Exit → Act → World → Prop} {K : Act → World → Prop} {C : World → Prop} {ops : List Oper} {l : List Oper}
theorem WL.gD {o : Option Tmp} {op : Op} {tt : TypeId} {ps : String} {af : Array Edge} {j : Nat} {g : Bool} {d : Nat} {p : Prop} (hj : dstAt ops j = some d) (hd : get e d = some (.bool (dec p)))
    (ht : p → WL P N ops.toArray (⟨o, op, tt, ps, af, some (j, g)⟩ :: l) ((d, .bool true) :: e) w Q) (hf : ¬ p → WL P N ops.toArray (⟨o, op, tt, ps, af, some (j, g)⟩ :: l) ((d, .bool false) :: e) w Q) :
    WL P N ops.toArray (⟨o, op, tt, ps, af, some (j, g)⟩ :: l) e w Q := WL.split hd (fun h => ht (of_dec h)) (fun h => hf (of_dec_false h))
theorem QL.gD {o : Option Tmp} {op : Op} {tt : TypeId} {ps : String} {af : Array Edge} {j : Nat} {g : Bool} {d : Nat} {p : Prop} (hj : dstAt ops j = some d) (hd : get e d = some (.bool (dec p)))
    (ht : p → QL P N C ops.toArray (⟨o, op, tt, ps, af, some (j, g)⟩ :: l) ((d, .bool true) :: e) Q) (hf : ¬ p → QL P N C ops.toArray (⟨o, op, tt, ps, af, some (j, g)⟩ :: l) ((d, .bool false) :: e) Q) :
    QL P N C ops.toArray (⟨o, op, tt, ps, af, some (j, g)⟩ :: l) e Q := QL.split hd (fun h => ht (of_dec h)) (fun h => hf (of_dec_false h))
theorem SL.gD {o : Option Tmp} {op : Op} {tt : TypeId} {ps : String} {af : Array Edge} {j : Nat} {g : Bool} {d : Nat} {p : Prop} (hj : dstAt ops j = some d) (hd : get e d = some (.bool (dec p)))
    (ht : p → SL P N ops.toArray (⟨o, op, tt, ps, af, some (j, g)⟩ :: l) ((d, .bool true) :: e) w K) (hf : ¬ p → SL P N ops.toArray (⟨o, op, tt, ps, af, some (j, g)⟩ :: l) ((d, .bool false) :: e) w K) :
    SL P N ops.toArray (⟨o, op, tt, ps, af, some (j, g)⟩ :: l) e w K := SL.split hd (fun h => ht (of_dec h)) (fun h => hf (of_dec_false h))
theorem WL.gN {o : Option Tmp} {op : Op} {tt : TypeId} {ps : String} {af : Array Edge} {j : Nat} {g : Bool} {d : Nat} {p : Prop} (hj : dstAt ops j = some d) (hd : get e d = some (.bool (!dec p)))
    (ht : ¬ p → WL P N ops.toArray (⟨o, op, tt, ps, af, some (j, g)⟩ :: l) ((d, .bool true) :: e) w Q) (hf : p → WL P N ops.toArray (⟨o, op, tt, ps, af, some (j, g)⟩ :: l) ((d, .bool false) :: e) w Q) :
    WL P N ops.toArray (⟨o, op, tt, ps, af, some (j, g)⟩ :: l) e w Q := WL.split hd (fun h => ht (of_dec_false (by simpa using h))) (fun h => hf (of_dec (by simpa using h)))
theorem QL.gN {o : Option Tmp} {op : Op} {tt : TypeId} {ps : String} {af : Array Edge} {j : Nat} {g : Bool} {d : Nat} {p : Prop} (hj : dstAt ops j = some d) (hd : get e d = some (.bool (!dec p)))
    (ht : ¬ p → QL P N C ops.toArray (⟨o, op, tt, ps, af, some (j, g)⟩ :: l) ((d, .bool true) :: e) Q) (hf : p → QL P N C ops.toArray (⟨o, op, tt, ps, af, some (j, g)⟩ :: l) ((d, .bool false) :: e) Q) :
    QL P N C ops.toArray (⟨o, op, tt, ps, af, some (j, g)⟩ :: l) e Q := QL.split hd (fun h => ht (of_dec_false (by simpa using h))) (fun h => hf (of_dec (by simpa using h)))
theorem SL.gN {o : Option Tmp} {op : Op} {tt : TypeId} {ps : String} {af : Array Edge} {j : Nat} {g : Bool} {d : Nat} {p : Prop} (hj : dstAt ops j = some d) (hd : get e d = some (.bool (!dec p)))
    (ht : ¬ p → SL P N ops.toArray (⟨o, op, tt, ps, af, some (j, g)⟩ :: l) ((d, .bool true) :: e) w K) (hf : p → SL P N ops.toArray (⟨o, op, tt, ps, af, some (j, g)⟩ :: l) ((d, .bool false) :: e) w K) :
    SL P N ops.toArray (⟨o, op, tt, ps, af, some (j, g)⟩ :: l) e w K := SL.split hd (fun h => ht (of_dec_false (by simpa using h))) (fun h => hf (of_dec (by simpa using h)))
end gsplit

section arith
variable {P : Program} {e : Env} {dd : Option Tmp} {t ty tt : TypeId} {x y : Operand} {ps : String} {af : Array Edge} {g : Option (Nat × Bool)} {a b : Int}

abbrev inI64 (n : Int) : Prop := -9223372036854775808 ≤ n ∧ n ≤ 9223372036854775807

theorem yadd (hx : ev e x = some (.int .i64 a)) (hy : ev e y = some (.int .i64 b)) (h : inI64 (a + b)) : Yields P e ⟨dd, .binOp .add t x y ty, tt, ps, af, g⟩ (.int .i64 (a + b)) := by
  have := Yields.bin (P := P) (d := dd) (op := .add) (t := t) (ty := ty) (tt := tt) (ps := ps) (af := af) (g := g) hx hy (v := .int .i64 (IntKind.i64.wrap (a + b))) rfl
  rwa [IntWalk.i64_in _ h] at this
theorem ysub (hx : ev e x = some (.int .i64 a)) (hy : ev e y = some (.int .i64 b)) (h : inI64 (a - b)) : Yields P e ⟨dd, .binOp .sub t x y ty, tt, ps, af, g⟩ (.int .i64 (a - b)) := by
  have := Yields.bin (P := P) (d := dd) (op := .sub) (t := t) (ty := ty) (tt := tt) (ps := ps) (af := af) (g := g) hx hy (v := .int .i64 (IntKind.i64.wrap (a - b))) rfl
  rwa [IntWalk.i64_in _ h] at this
theorem ymul (hx : ev e x = some (.int .i64 a)) (hy : ev e y = some (.int .i64 b)) (h : inI64 (a * b)) : Yields P e ⟨dd, .binOp .mul t x y ty, tt, ps, af, g⟩ (.int .i64 (a * b)) := by
  have := Yields.bin (P := P) (d := dd) (op := .mul) (t := t) (ty := ty) (tt := tt) (ps := ps) (af := af) (g := g) hx hy (v := .int .i64 (IntKind.i64.wrap (a * b))) rfl
  rwa [IntWalk.i64_in _ h] at this
theorem run_div (op : BinOp) (k : IntKind) (v : Value) (hb : b ≠ 0) (h : (op = .quo ∧ v = .int k (k.wrap (a.tdiv b))) ∨ (op = .rem ∧ v = .int k (a.tmod b))) (w : World) :
    (binOp op t (.int k a) (.int k b)).run P w = .ok v w := by
  rcases h with ⟨rfl, rfl⟩ | ⟨rfl, rfl⟩ <;> simp [binOp, Op.intDiv, hb]
theorem ydiv {k : IntKind} {op : BinOp} {v : Value} (hx : ev e x = some (.int k a)) (hy : ev e y = some (.int k b)) (hb : b ≠ 0) (h : (op = .quo ∧ v = .int k (k.wrap (a.tdiv b))) ∨ (op = .rem ∧ v = .int k (a.tmod b))) :
    Yields P e ⟨dd, .binOp op t x y ty, tt, ps, af, g⟩ v := by
  intro ρ hρ w
  simp [execOp, hρ _ _ hx, hρ _ _ hy, eqGuard_int, run_div op k v hb h]
theorem yquo (hx : ev e x = some (.int .i64 a)) (hy : ev e y = some (.int .i64 b)) (h : 0 ≤ a ∧ a ≤ 9223372036854775807 ∧ 1 ≤ b) : Yields P e ⟨dd, .binOp .quo t x y ty, tt, ps, af, g⟩ (.int .i64 (a / b)) := by
  have := ydiv (P := P) (dd := dd) (op := .quo) (t := t) (ty := ty) (tt := tt) (ps := ps) (af := af) (g := g) hx hy (by omega) (.inl ⟨rfl, rfl⟩)
  rwa [IntWalk.i64_quo _ _ h] at this
theorem yrem (hx : ev e x = some (.int .i64 a)) (hy : ev e y = some (.int .i64 b)) (h : 0 ≤ a ∧ 1 ≤ b) : Yields P e ⟨dd, .binOp .rem t x y ty, tt, ps, af, g⟩ (.int .i64 (a % b)) := by
  have := ydiv (P := P) (dd := dd) (op := .rem) (t := t) (ty := ty) (tt := tt) (ps := ps) (af := af) (g := g) hx hy (by omega) (.inr ⟨rfl, rfl⟩)
  rwa [IntWalk.rem_in _ _ h.1] at this
end arith

/-- The cells from (b, off) on hold these. -/
def Cells (w : World) (b : Nat) : Nat → List Value → Prop
  | _, [] => True
  | off, u :: r => w.cell? ⟨b, off, none⟩ = some u ∧ Cells w b (off + 1) r

theorem Cells.ext {w w' : World} (h : Ext w w') {b : Nat} : ∀ {off : Nat} {l : List Value}, Cells w b off l → Cells w' b off l
  | _, [], _ => trivial
  | _, _ :: _, ⟨h1, h2⟩ => ⟨h.cell h1, Cells.ext h h2⟩

/-- The slice that begins at a reads as the list: s cells an element. -/
structure Row {α : Type} (s : Nat) (enc : α → List Value) (w : World) (a : Option Addr) (l : List α) : Prop where
  len : l.length ≤ 9223372036854775807
  elem : ∀ i x, l[i]? = some x → ∃ b off, a = some ⟨b, off, none⟩ ∧ Cells w b (off + i * s) (enc x)

theorem Row.nil {α : Type} (s : Nat) (enc : α → List Value) (w : World) (a : Option Addr) : Row s enc w a [] := ⟨by simp, fun i x h => by simp at h⟩
theorem Row.ext {α : Type} {s : Nat} {enc : α → List Value} {w w' : World} {a : Option Addr} {l : List α} (h : Row s enc w a l) (hx : Ext w w') : Row s enc w' a l :=
  ⟨h.len, fun i x hi => let ⟨b, off, h1, h2⟩ := h.elem i x hi; ⟨b, off, h1, h2.ext hx⟩⟩

section reads
variable {P : Program} {T : Tab} {C : World → Prop} {e : Env} {dd : Option Tmp} {t tt : TypeId} {x y : Operand} {ps : String} {af : Array Edge} {g : Option (Nat × Bool)} {w w0 : World}

theorem yload [Cls C w] (hT : OkTab P T) {p : Addr} {v : Value} {i : TI} (hx : ev e x = some (.pointer (some p))) (ht : tget T t = some i) (ha : isAggD i.desc = false) (hv : w.cell? p = some v) :
    YieldsIn P e C ⟨dd, .load t x, tt, ps, af, g⟩ v := by
  intro ρ hρ w' hw'
  have h1 := run_isAgg' (hT.at ht); rw [ha] at h1
  have h2 := (Cls.keeps (C := C) w' hw').cell hv
  simp [execOp, hρ _ _ hx, Instr.loadAt, Instr.sureAddr, loadVar, h1, h2]

theorem run_loadCellsFrom {w : World} {b : Nat} : ∀ {l : List Value} {off i : Nat} {acc : Array Value}, Cells w b (off + i) l → (loadCellsFrom ⟨b, off, none⟩ i l.length acc).run P w = .ok (acc ++ l.toArray) w
  | [], off, i, acc, _ => by simp [loadCellsFrom]
  | u :: r, off, i, acc, ⟨h1, h2⟩ => by
    have ih := run_loadCellsFrom (l := r) (off := off) (i := i + 1) (acc := acc.push u) (by simpa [Nat.add_assoc] using h2)
    simp [loadCellsFrom, Addr_add_none, h1, ih]

theorem yloadAgg [Cls C w] (hT : OkTab P T) {b off : Nat} {l : List Value} {i : TI} (hx : ev e x = some (.pointer (some ⟨b, off, none⟩))) (ht : tget T t = some i) (ha : isAggD i.desc = true) (hs : i.size = l.length) (hv : Cells w b off l) :
    YieldsIn P e C ⟨dd, .load t x, tt, ps, af, g⟩ (.agg l.toArray) := by
  intro ρ hρ w' hw'
  have h1 := run_isAgg' (hT.at ht); rw [ha] at h1
  have h3 := run_sizeOf' (hT.at ht); rw [hs] at h3
  have h2 := run_loadCellsFrom (P := P) (acc := #[]) (off := off) (i := 0) (hv.ext (Cls.keeps (C := C) w' hw'))
  simp [execOp, hρ _ _ hx, Instr.loadAt, Instr.sureAddr, loadVar, h1, h3, loadCells, h2]

theorem yindex (hT : OkTab P T) {α : Type} {s : Nat} {enc : α → List Value} {a : Option Addr} {l : List α} {n cap : Nat} {k : IntKind} {i : Int} {ti ei : TI} {el : TypeId} {z : α}
    (hx : ev e x = some (.slice a n cap)) (hy : ev e y = some (.int k i)) (ht : tget T t = some ti) (hd : ti.desc = .slice el) (he : tget T el = some ei) (hs : ei.size = s)
    (R : Row s enc w0 a l) (E : Ext w0 w) (hn : l.length = n) (h0 : 0 ≤ i) (hz : l[i.toNat]? = some z) :
    ∃ b off, Cells w b off (enc z) ∧ Yields P e ⟨dd, .indexAddr t x y, tt, ps, af, g⟩ (.pointer (some ⟨b, off, none⟩)) := by
  obtain ⟨b, off, ha, hc⟩ := R.elem _ _ hz
  refine ⟨b, off + i.toNat * s, hc.ext E, ?_⟩
  intro ρ hρ w'
  have hlt : i.toNat < l.length := (List.getElem?_eq_some_iff.1 hz).1
  have h1 := run_underlying' (hT.at ht); rw [hd] at h1
  have h2 := run_sizeOf' (hT.at he); rw [hs] at h2
  have h3 : i < (n : Int) := by omega
  subst ha
  simp [execOp, hρ _ _ hx, hρ _ _ hy, Instr.indexAt, asIntOf, h1, h2, h0, h3, Addr_add_none]
end reads
end Go.Lt
namespace Go.Lt
open Go.RowKit
set_option linter.unusedVariables false
variable {P : Program} {N : Nat} {e : Env} {w : World} {Q : Exit → Act → World → Prop} {K : Act → World → Prop} {C : World → Prop} {ops : List Oper} {l : List Oper} {T : Tab}

theorem WL.pev {d : Nat} {tt : TypeId} {ps : String} {af : Array Edge} {g : Option (Nat × Bool)} {op : Op} {v : Value} (hT : OkTab P T) (hg : gate ops e g = some true) (hd : Nat.blt d N = true) (h : pev T e op = some v) (k : WL P N ops.toArray l ((d, v) :: e) w Q) : WL P N ops.toArray (⟨some d, op, tt, ps, af, g⟩ :: l) e w Q :=
  WL.step hg hd (pev_yields hT h).in k

theorem WL.add {d : Nat} {tt : TypeId} {ps : String} {af : Array Edge} {g : Option (Nat × Bool)} {t ty : TypeId} {x y : Operand} {a b : Int} (hg : gate ops e g = some true) (hd : Nat.blt d N = true) (hx : ev e x = some (.int .i64 a)) (hy : ev e y = some (.int .i64 b)) (h : inI64 (a + b)) (k : WL P N ops.toArray l ((d, .int .i64 (a + b)) :: e) w Q) : WL P N ops.toArray (⟨some d, .binOp .add t x y ty, tt, ps, af, g⟩ :: l) e w Q :=
  WL.step hg hd (yadd hx hy h).in k

theorem WL.sub {d : Nat} {tt : TypeId} {ps : String} {af : Array Edge} {g : Option (Nat × Bool)} {t ty : TypeId} {x y : Operand} {a b : Int} (hg : gate ops e g = some true) (hd : Nat.blt d N = true) (hx : ev e x = some (.int .i64 a)) (hy : ev e y = some (.int .i64 b)) (h : inI64 (a - b)) (k : WL P N ops.toArray l ((d, .int .i64 (a - b)) :: e) w Q) : WL P N ops.toArray (⟨some d, .binOp .sub t x y ty, tt, ps, af, g⟩ :: l) e w Q :=
  WL.step hg hd (ysub hx hy h).in k

theorem WL.mul {d : Nat} {tt : TypeId} {ps : String} {af : Array Edge} {g : Option (Nat × Bool)} {t ty : TypeId} {x y : Operand} {a b : Int} (hg : gate ops e g = some true) (hd : Nat.blt d N = true) (hx : ev e x = some (.int .i64 a)) (hy : ev e y = some (.int .i64 b)) (h : inI64 (a * b)) (k : WL P N ops.toArray l ((d, .int .i64 (a * b)) :: e) w Q) : WL P N ops.toArray (⟨some d, .binOp .mul t x y ty, tt, ps, af, g⟩ :: l) e w Q :=
  WL.step hg hd (ymul hx hy h).in k

theorem WL.quo {d : Nat} {tt : TypeId} {ps : String} {af : Array Edge} {g : Option (Nat × Bool)} {t ty : TypeId} {x y : Operand} {a b : Int} (hg : gate ops e g = some true) (hd : Nat.blt d N = true) (hx : ev e x = some (.int .i64 a)) (hy : ev e y = some (.int .i64 b)) (h : 0 ≤ a ∧ a ≤ 9223372036854775807 ∧ 1 ≤ b) (k : WL P N ops.toArray l ((d, .int .i64 (a / b)) :: e) w Q) : WL P N ops.toArray (⟨some d, .binOp .quo t x y ty, tt, ps, af, g⟩ :: l) e w Q :=
  WL.step hg hd (yquo hx hy h).in k

theorem WL.rem {d : Nat} {tt : TypeId} {ps : String} {af : Array Edge} {g : Option (Nat × Bool)} {t ty : TypeId} {x y : Operand} {a b : Int} (hg : gate ops e g = some true) (hd : Nat.blt d N = true) (hx : ev e x = some (.int .i64 a)) (hy : ev e y = some (.int .i64 b)) (h : 0 ≤ a ∧ 1 ≤ b) (k : WL P N ops.toArray l ((d, .int .i64 (a % b)) :: e) w Q) : WL P N ops.toArray (⟨some d, .binOp .rem t x y ty, tt, ps, af, g⟩ :: l) e w Q :=
  WL.step hg hd (yrem hx hy h).in k

theorem WL.load {d : Nat} {tt : TypeId} {ps : String} {af : Array Edge} {g : Option (Nat × Bool)} {t : TypeId} {x : Operand} {p : Addr} {v : Value} {i : TI} (hT : OkTab P T) (hg : gate ops e g = some true) (hd : Nat.blt d N = true) (hx : ev e x = some (.pointer (some p))) (ht : tget T t = some i) (ha : isAggD i.desc = false) (hv : w.cell? p = some v) (k : WL P N ops.toArray l ((d, v) :: e) w Q) : WL P N ops.toArray (⟨some d, .load t x, tt, ps, af, g⟩ :: l) e w Q :=
  WL.step hg hd (yload hT hx ht ha hv) k
theorem WL.index {d : Nat} {tt : TypeId} {ps : String} {af : Array Edge} {g : Option (Nat × Bool)} {t : TypeId} {x y : Operand} {α : Type} {s : Nat} {enc : α → List Value} {a : Option Addr} {xs : List α} {n cap : Nat} {kk : IntKind} {i : Int} {ti ei : TI} {el : TypeId} {z : α} {w0 : World}
    (hT : OkTab P T) (hg : gate ops e g = some true) (hd : Nat.blt d N = true) (hx : ev e x = some (.slice a n cap)) (hy : ev e y = some (.int kk i)) (ht : tget T t = some ti) (htd : ti.desc = .slice el) (he : tget T el = some ei) (hs : ei.size = s)
    (R : Row s enc w0 a xs) (E : Ext w0 w) (hn : xs.length = n) (h0 : 0 ≤ i) (hz : xs[i.toNat]? = some z)
    (k : ∀ b off, Cells w b off (enc z) → WL P N ops.toArray l ((d, .pointer (some ⟨b, off, none⟩)) :: e) w Q) : WL P N ops.toArray (⟨some d, .indexAddr t x y, tt, ps, af, g⟩ :: l) e w Q := by
  obtain ⟨b, off, hc, hy'⟩ := yindex (P := P) (dd := some d) (t := t) (tt := tt) (x := x) (y := y) (ps := ps) (af := af) (g := g) hT hx hy ht htd he hs R E hn h0 hz
  exact WL.step hg hd hy'.in (k b off hc)

theorem QL.pev {d : Nat} {tt : TypeId} {ps : String} {af : Array Edge} {g : Option (Nat × Bool)} {op : Op} {v : Value} (hT : OkTab P T) (hg : gate ops e g = some true) (hd : Nat.blt d N = true) (h : pev T e op = some v) (k : QL P N C ops.toArray l ((d, v) :: e) Q) : QL P N C ops.toArray (⟨some d, op, tt, ps, af, g⟩ :: l) e Q :=
  QL.step hg hd (pev_yields hT h).in k

theorem QL.add {d : Nat} {tt : TypeId} {ps : String} {af : Array Edge} {g : Option (Nat × Bool)} {t ty : TypeId} {x y : Operand} {a b : Int} (hg : gate ops e g = some true) (hd : Nat.blt d N = true) (hx : ev e x = some (.int .i64 a)) (hy : ev e y = some (.int .i64 b)) (h : inI64 (a + b)) (k : QL P N C ops.toArray l ((d, .int .i64 (a + b)) :: e) Q) : QL P N C ops.toArray (⟨some d, .binOp .add t x y ty, tt, ps, af, g⟩ :: l) e Q :=
  QL.step hg hd (yadd hx hy h).in k

theorem QL.sub {d : Nat} {tt : TypeId} {ps : String} {af : Array Edge} {g : Option (Nat × Bool)} {t ty : TypeId} {x y : Operand} {a b : Int} (hg : gate ops e g = some true) (hd : Nat.blt d N = true) (hx : ev e x = some (.int .i64 a)) (hy : ev e y = some (.int .i64 b)) (h : inI64 (a - b)) (k : QL P N C ops.toArray l ((d, .int .i64 (a - b)) :: e) Q) : QL P N C ops.toArray (⟨some d, .binOp .sub t x y ty, tt, ps, af, g⟩ :: l) e Q :=
  QL.step hg hd (ysub hx hy h).in k

theorem QL.mul {d : Nat} {tt : TypeId} {ps : String} {af : Array Edge} {g : Option (Nat × Bool)} {t ty : TypeId} {x y : Operand} {a b : Int} (hg : gate ops e g = some true) (hd : Nat.blt d N = true) (hx : ev e x = some (.int .i64 a)) (hy : ev e y = some (.int .i64 b)) (h : inI64 (a * b)) (k : QL P N C ops.toArray l ((d, .int .i64 (a * b)) :: e) Q) : QL P N C ops.toArray (⟨some d, .binOp .mul t x y ty, tt, ps, af, g⟩ :: l) e Q :=
  QL.step hg hd (ymul hx hy h).in k

theorem QL.quo {d : Nat} {tt : TypeId} {ps : String} {af : Array Edge} {g : Option (Nat × Bool)} {t ty : TypeId} {x y : Operand} {a b : Int} (hg : gate ops e g = some true) (hd : Nat.blt d N = true) (hx : ev e x = some (.int .i64 a)) (hy : ev e y = some (.int .i64 b)) (h : 0 ≤ a ∧ a ≤ 9223372036854775807 ∧ 1 ≤ b) (k : QL P N C ops.toArray l ((d, .int .i64 (a / b)) :: e) Q) : QL P N C ops.toArray (⟨some d, .binOp .quo t x y ty, tt, ps, af, g⟩ :: l) e Q :=
  QL.step hg hd (yquo hx hy h).in k

theorem QL.rem {d : Nat} {tt : TypeId} {ps : String} {af : Array Edge} {g : Option (Nat × Bool)} {t ty : TypeId} {x y : Operand} {a b : Int} (hg : gate ops e g = some true) (hd : Nat.blt d N = true) (hx : ev e x = some (.int .i64 a)) (hy : ev e y = some (.int .i64 b)) (h : 0 ≤ a ∧ 1 ≤ b) (k : QL P N C ops.toArray l ((d, .int .i64 (a % b)) :: e) Q) : QL P N C ops.toArray (⟨some d, .binOp .rem t x y ty, tt, ps, af, g⟩ :: l) e Q :=
  QL.step hg hd (yrem hx hy h).in k

theorem QL.load [Cls C w] {d : Nat} {tt : TypeId} {ps : String} {af : Array Edge} {g : Option (Nat × Bool)} {t : TypeId} {x : Operand} {p : Addr} {v : Value} {i : TI} (hT : OkTab P T) (hg : gate ops e g = some true) (hd : Nat.blt d N = true) (hx : ev e x = some (.pointer (some p))) (ht : tget T t = some i) (ha : isAggD i.desc = false) (hv : w.cell? p = some v) (k : QL P N C ops.toArray l ((d, v) :: e) Q) : QL P N C ops.toArray (⟨some d, .load t x, tt, ps, af, g⟩ :: l) e Q :=
  QL.step hg hd (yload hT hx ht ha hv) k
theorem QL.index [Cls C w] {d : Nat} {tt : TypeId} {ps : String} {af : Array Edge} {g : Option (Nat × Bool)} {t : TypeId} {x y : Operand} {α : Type} {s : Nat} {enc : α → List Value} {a : Option Addr} {xs : List α} {n cap : Nat} {kk : IntKind} {i : Int} {ti ei : TI} {el : TypeId} {z : α} {w0 : World}
    (hT : OkTab P T) (hg : gate ops e g = some true) (hd : Nat.blt d N = true) (hx : ev e x = some (.slice a n cap)) (hy : ev e y = some (.int kk i)) (ht : tget T t = some ti) (htd : ti.desc = .slice el) (he : tget T el = some ei) (hs : ei.size = s)
    (R : Row s enc w0 a xs) (E : Ext w0 w) (hn : xs.length = n) (h0 : 0 ≤ i) (hz : xs[i.toNat]? = some z)
    (k : ∀ b off, Cells w b off (enc z) → QL P N C ops.toArray l ((d, .pointer (some ⟨b, off, none⟩)) :: e) Q) : QL P N C ops.toArray (⟨some d, .indexAddr t x y, tt, ps, af, g⟩ :: l) e Q := by
  obtain ⟨b, off, hc, hy'⟩ := yindex (P := P) (dd := some d) (t := t) (tt := tt) (x := x) (y := y) (ps := ps) (af := af) (g := g) hT hx hy ht htd he hs R E hn h0 hz
  exact QL.step hg hd hy'.in (k b off hc)

theorem SL.pev {d : Nat} {tt : TypeId} {ps : String} {af : Array Edge} {g : Option (Nat × Bool)} {op : Op} {v : Value} (hT : OkTab P T) (hg : gate ops e g = some true) (hd : Nat.blt d N = true) (h : pev T e op = some v) (k : SL P N ops.toArray l ((d, v) :: e) w K) : SL P N ops.toArray (⟨some d, op, tt, ps, af, g⟩ :: l) e w K :=
  SL.step hg hd (pev_yields hT h).in k

theorem SL.add {d : Nat} {tt : TypeId} {ps : String} {af : Array Edge} {g : Option (Nat × Bool)} {t ty : TypeId} {x y : Operand} {a b : Int} (hg : gate ops e g = some true) (hd : Nat.blt d N = true) (hx : ev e x = some (.int .i64 a)) (hy : ev e y = some (.int .i64 b)) (h : inI64 (a + b)) (k : SL P N ops.toArray l ((d, .int .i64 (a + b)) :: e) w K) : SL P N ops.toArray (⟨some d, .binOp .add t x y ty, tt, ps, af, g⟩ :: l) e w K :=
  SL.step hg hd (yadd hx hy h).in k

theorem SL.sub {d : Nat} {tt : TypeId} {ps : String} {af : Array Edge} {g : Option (Nat × Bool)} {t ty : TypeId} {x y : Operand} {a b : Int} (hg : gate ops e g = some true) (hd : Nat.blt d N = true) (hx : ev e x = some (.int .i64 a)) (hy : ev e y = some (.int .i64 b)) (h : inI64 (a - b)) (k : SL P N ops.toArray l ((d, .int .i64 (a - b)) :: e) w K) : SL P N ops.toArray (⟨some d, .binOp .sub t x y ty, tt, ps, af, g⟩ :: l) e w K :=
  SL.step hg hd (ysub hx hy h).in k

theorem SL.mul {d : Nat} {tt : TypeId} {ps : String} {af : Array Edge} {g : Option (Nat × Bool)} {t ty : TypeId} {x y : Operand} {a b : Int} (hg : gate ops e g = some true) (hd : Nat.blt d N = true) (hx : ev e x = some (.int .i64 a)) (hy : ev e y = some (.int .i64 b)) (h : inI64 (a * b)) (k : SL P N ops.toArray l ((d, .int .i64 (a * b)) :: e) w K) : SL P N ops.toArray (⟨some d, .binOp .mul t x y ty, tt, ps, af, g⟩ :: l) e w K :=
  SL.step hg hd (ymul hx hy h).in k

theorem SL.quo {d : Nat} {tt : TypeId} {ps : String} {af : Array Edge} {g : Option (Nat × Bool)} {t ty : TypeId} {x y : Operand} {a b : Int} (hg : gate ops e g = some true) (hd : Nat.blt d N = true) (hx : ev e x = some (.int .i64 a)) (hy : ev e y = some (.int .i64 b)) (h : 0 ≤ a ∧ a ≤ 9223372036854775807 ∧ 1 ≤ b) (k : SL P N ops.toArray l ((d, .int .i64 (a / b)) :: e) w K) : SL P N ops.toArray (⟨some d, .binOp .quo t x y ty, tt, ps, af, g⟩ :: l) e w K :=
  SL.step hg hd (yquo hx hy h).in k

theorem SL.rem {d : Nat} {tt : TypeId} {ps : String} {af : Array Edge} {g : Option (Nat × Bool)} {t ty : TypeId} {x y : Operand} {a b : Int} (hg : gate ops e g = some true) (hd : Nat.blt d N = true) (hx : ev e x = some (.int .i64 a)) (hy : ev e y = some (.int .i64 b)) (h : 0 ≤ a ∧ 1 ≤ b) (k : SL P N ops.toArray l ((d, .int .i64 (a % b)) :: e) w K) : SL P N ops.toArray (⟨some d, .binOp .rem t x y ty, tt, ps, af, g⟩ :: l) e w K :=
  SL.step hg hd (yrem hx hy h).in k

theorem SL.load {d : Nat} {tt : TypeId} {ps : String} {af : Array Edge} {g : Option (Nat × Bool)} {t : TypeId} {x : Operand} {p : Addr} {v : Value} {i : TI} (hT : OkTab P T) (hg : gate ops e g = some true) (hd : Nat.blt d N = true) (hx : ev e x = some (.pointer (some p))) (ht : tget T t = some i) (ha : isAggD i.desc = false) (hv : w.cell? p = some v) (k : SL P N ops.toArray l ((d, v) :: e) w K) : SL P N ops.toArray (⟨some d, .load t x, tt, ps, af, g⟩ :: l) e w K :=
  SL.step hg hd (yload hT hx ht ha hv) k
theorem SL.index {d : Nat} {tt : TypeId} {ps : String} {af : Array Edge} {g : Option (Nat × Bool)} {t : TypeId} {x y : Operand} {α : Type} {s : Nat} {enc : α → List Value} {a : Option Addr} {xs : List α} {n cap : Nat} {kk : IntKind} {i : Int} {ti ei : TI} {el : TypeId} {z : α} {w0 : World}
    (hT : OkTab P T) (hg : gate ops e g = some true) (hd : Nat.blt d N = true) (hx : ev e x = some (.slice a n cap)) (hy : ev e y = some (.int kk i)) (ht : tget T t = some ti) (htd : ti.desc = .slice el) (he : tget T el = some ei) (hs : ei.size = s)
    (R : Row s enc w0 a xs) (E : Ext w0 w) (hn : xs.length = n) (h0 : 0 ≤ i) (hz : xs[i.toNat]? = some z)
    (k : ∀ b off, Cells w b off (enc z) → SL P N ops.toArray l ((d, .pointer (some ⟨b, off, none⟩)) :: e) w K) : SL P N ops.toArray (⟨some d, .indexAddr t x y, tt, ps, af, g⟩ :: l) e w K := by
  obtain ⟨b, off, hc, hy'⟩ := yindex (P := P) (dd := some d) (t := t) (tt := tt) (x := x) (y := y) (ps := ps) (af := af) (g := g) hT hx hy ht htd he hs R E hn h0 hz
  exact SL.step hg hd hy'.in (k b off hc)

end Go.Lt
namespace Go.Lt
open Go.RowKit
set_option linter.unusedVariables false
set_option linter.unusedSimpArgs false

/-- The slice value that begins at a owns, in a block from B on, the cells of the list. -/
def Own {α : Type} (s : Nat) (enc : α → List Value) (el : TypeId) (B : Nat) (w : World) (a : Option Addr) (cap : Nat) (l : List α) : Prop :=
  w.ownsRow B el s (.slice a l.length cap) l.length (l.flatMap enc)

/-- Each element takes s cells, none of them made of parts. -/
structure Enc {α : Type} (s : Nat) (enc : α → List Value) : Prop where
  len : ∀ x, (enc x).length = s
  one : ∀ x, ∀ u ∈ enc x, u.oneCell' = true
  pos : 0 < s

theorem length_flatMap' {α : Type} {s : Nat} {enc : α → List Value} (h : ∀ x, (enc x).length = s) : ∀ l : List α, (l.flatMap enc).length = l.length * s
  | [] => by simp
  | x :: r => by simp [h x, length_flatMap' h r, Nat.add_mul, Nat.add_comm]

theorem getElem?_flatMap' {α : Type} {s : Nat} {enc : α → List Value} (h : ∀ x, (enc x).length = s) : ∀ (l : List α) (i j : Nat) (x : α), l[i]? = some x → j < s → (l.flatMap enc)[i * s + j]? = (enc x)[j]?
  | [], i, j, x, hx, _ => by simp at hx
  | y :: r, 0, j, x, hx, hj => by
    simp only [List.getElem?_cons_zero, Option.some.injEq] at hx
    subst hx
    have : j < (enc y).length := by rw [h]; exact hj
    simp [List.getElem?_append_left this]
  | y :: r, i + 1, j, x, hx, hj => by
    simp only [List.getElem?_cons_succ] at hx
    have ih := getElem?_flatMap' h r i j x hx hj
    rw [List.flatMap_cons, show (i + 1) * s + j = (enc y).length + (i * s + j) by rw [h, Nat.add_mul]; omega, List.getElem?_append_right (by omega)]
    simpa using ih

theorem cells_of {w : World} {b : Nat} : ∀ {off : Nat} {l : List Value}, (∀ j u, l[j]? = some u → w.cell? ⟨b, off + j, none⟩ = some u) → Cells w b off l
  | _, [], _ => trivial
  | off, u :: r, h => ⟨by simpa using h 0 u rfl, cells_of fun j v hj => by have := h (j + 1) v (by simpa using hj); rwa [show off + 1 + j = off + (j + 1) by omega]⟩

section own
variable {α : Type} {s : Nat} {enc : α → List Value} {el : TypeId} {B : Nat} {w w' : World} {a : Option Addr} {cap : Nat} {l : List α}

theorem Own.row (hE : Enc s enc) (h : Own s enc el B w a cap l) : Row s enc w a l := by
  refine ⟨?_, fun i x hx => ?_⟩
  · rcases h.2 with ⟨_, h2⟩ | ⟨g, c, cur, _, _, _, h4, h5, _⟩
    · omega
    · simp only [maxLen] at h5; omega
  have hi : i < l.length := (List.getElem?_eq_some_iff.1 hx).1
  rcases h.2 with ⟨h1, h2⟩ | ⟨g, c, cur, h1, _⟩
  · omega
  · simp only [Value.slice.injEq] at h1
    obtain ⟨rfl, _, rfl⟩ := h1
    refine ⟨g, 0, rfl, cells_of fun j u hj => ?_⟩
    have hjs : j < s := by have := (List.getElem?_eq_some_iff.1 hj).1; rwa [hE.len] at this
    have hlt : i * s + j < l.length * s := by
      have : i * s + s ≤ l.length * s := by rw [← Nat.succ_mul]; exact Nat.mul_le_mul_right s hi
      omega
    rw [Nat.zero_add, World.ownsRow.cellAt (g := g) (n := l.length) (cap := cap) h _ hlt, getElem?_flatMap' hE.len l i j x hx hjs, hj]

theorem Own.ext (h : Own s enc el B w a cap l) (hx : Ext w w') : Own s enc el B w' a cap l := by
  refine ⟨h.1, ?_⟩
  rcases h.2 with h1 | ⟨g, c, cur, h1, h2, h3, h4⟩
  · exact .inl h1
  · exact .inr ⟨g, c, cur, h1, h2, by rw [hx.block g (Array.getElem?_eq_some_iff.1 h3).1]; exact h3, h4⟩

theorem Own.base {B' : Nat} (h : Own s enc el B w a cap l) (hB : B' ≤ B) : Own s enc el B' w a cap l := by
  refine ⟨h.1, ?_⟩
  rcases h.2 with h1 | ⟨g, c, cur, h1, h2, h3⟩
  · exact .inl h1
  · exact .inr ⟨g, c, cur, h1, Nat.le_trans hB h2, h3⟩

theorem Own.nil : Own s enc el B w none 0 ([] : List α) := World.ownsRow_nil _ _ _ _

/-- The block, or none. -/
def blk (a : Option Addr) : Option Nat := a.map (·.block)
theorem ownBlock_slice (a : Option Addr) (n c : Nat) : Value.ownBlock (.slice a n c) = blk a := by cases a <;> rfl

/-- w' is w but for new blocks and for one's own block that begins at a, from B on. -/
structure Upd (B : Nat) (a : Option Addr) (w w' : World) : Prop where
  grown : w.grownBy w' (blk a)
  from' : ∀ k, blk a = some k → B ≤ k

theorem Upd.ext {w0 : World} (h : Upd B a w w') (hx : Ext w0 w) (hB : w0.heap.size ≤ B) : Ext w0 w' :=
  Below.grown hx h.grown hx.size (fun k hk => Nat.le_trans hB (h.from' k hk))
theorem Upd.size (h : Upd B a w w') : w.heap.size ≤ w'.heap.size := h.grown.size
theorem Upd.own {β : Type} {t : Nat} {enc' : β → List Value} {el' : TypeId} {B' : Nat} {a' : Option Addr} {c' : Nat} {l' : List β} (h : Upd B a w w') (ho : Own t enc' el' B' w a' c' l') (hne : blk a' = none ∨ blk a' ≠ blk a) : Own t enc' el' B' w' a' c' l' :=
  World.ownsRow.kept ho h.grown (by rw [ownBlock_slice]; exact hne)
/-- What lies below B is as it was. -/
theorem Upd.row {β : Type} {t : Nat} {enc' : β → List Value} {w0 : World} {a' : Option Addr} {l' : List β} (h : Upd B a w w') (hx : Ext w0 w) (hB : w0.heap.size ≤ B) (R : Row t enc' w0 a' l') : Row t enc' w' a' l' := R.ext (h.ext hx hB)

theorem Own.blk_lt (h : Own s enc el B w a cap l) : ∀ k, blk a = some k → B ≤ k ∧ k < w.heap.size := fun k hk => World.ownsRow.lt h k (by rw [ownBlock_slice]; exact hk)
end own

section rules
variable {P : Program} {N : Nat} {e : Env} {w : World} {Q : Exit → Act → World → Prop} {ops : List Oper} {l : List Oper} {T : Tab}
  {d : Nat} {tt : TypeId} {ps : String} {af : Array Edge} {g : Option (Nat × Bool)} {t : TypeId} {α : Type} {s : Nat} {enc : α → List Value} {B : Nat} {ti ei : TI} {el : TypeId}

/-- An operation that yields v and leaves w'. -/
theorem WL.eff {op : Op} {v : Value} {w' : Nat → World} (hg : gate ops e g = some true) (hd : Nat.blt d N = true)
    (h : ∀ (ρ : Operand → Value), (∀ x u, ev e x = some u → ρ x = u) → ∀ m, (execOp ρ ⟨some d, op, tt, ps, af, g⟩).run P (at' w m) = .ok (.value v) (w' m))
    (k : ∀ m, WL P N ops.toArray l ((d, v) :: e) (w' m) Q) : WL P N ops.toArray (⟨some d, op, tt, ps, af, g⟩ :: l) e w Q := by
  refine ⟨fun a m hf => ?_⟩
  unfold wpList
  rw [if_pos (by rw [gate_wanted hf (o := ⟨some d, op, tt, ps, af, g⟩) hg])]
  refine .inl ?_
  unfold Oper.wp
  rw [h a.eval (fun x u hx => hf.eval hx) m]
  exact (k m).go _ (w' m).drawn (hf.put (by simpa [Nat.blt_eq] using hd) v)

/-- An operation that yields nothing and leaves w'. -/
theorem WL.effN {op : Op} {w' : Nat → World} (hg : gate ops e g = some true)
    (h : ∀ (ρ : Operand → Value), (∀ x u, ev e x = some u → ρ x = u) → ∀ m, (execOp ρ ⟨none, op, tt, ps, af, g⟩).run P (at' w m) = .ok .skip (w' m))
    (k : ∀ m, WL P N ops.toArray l e (w' m) Q) : WL P N ops.toArray (⟨none, op, tt, ps, af, g⟩ :: l) e w Q := by
  refine ⟨fun a m hf => ?_⟩
  unfold wpList
  rw [if_pos (by rw [gate_wanted hf (o := ⟨none, op, tt, ps, af, g⟩) hg])]
  refine .inl ?_
  unfold Oper.wp
  rw [h a.eval (fun x u hx => hf.eval hx) m]
  exact (k m).go _ (w' m).drawn hf

/-- 'append' of one element, or of none. -/
theorem WL.append {x y : Operand} {a b : Option Addr} {n cap m c : Nat} {xs ys : List α} (hT : OkTab P T) (hE : Enc s enc) (hg : gate ops e g = some true) (hd : Nat.blt d N = true)
    (hx : ev e x = some (.slice a n cap)) (hy : ev e y = some (.slice b m c)) (ht : tget T t = some ti) (htd : ti.desc = .slice el) (he : tget T el = some ei) (hs : ei.size = s) (hz : ei.zero.cells.size = s)
    (ho : Own s enc el B w a cap xs) (hn : xs.length = n) (hr : Row s enc w b ys) (hm : ys.length = m) (hb : b ≠ none)
    (hbd : (n + m) * ei.bytes ≤ 140737488355328 ∧ n + m ≤ maxLen ∧ B ≤ w.heap.size)
    (k : ∀ a' cap' w', Own s enc el B w' a' cap' (xs ++ ys) → Upd B a w w' → (blk a' = blk a ∨ ∃ k, blk a' = some k ∧ w.heap.size ≤ k) → WL P N ops.toArray l ((d, .slice a' (xs ++ ys).length cap') :: e) w' Q) :
    WL P N ops.toArray (⟨some d, .call ⟨.builtin .append, ⟨[x, y]⟩, ⟨[t, t]⟩⟩, tt, ps, af, g⟩ :: l) e w Q := by
  refine ⟨fun ac q hf => ?_⟩
  unfold wpList
  rw [if_pos (by rw [gate_wanted hf (o := ⟨some d, .call ⟨.builtin .append, ⟨[x, y]⟩, ⟨[t, t]⟩⟩, tt, ps, af, g⟩) hg])]
  refine .inl ?_
  obtain ⟨j, hj1, hj2, hj3, hj4⟩ := (hT.at he).info
  have hti := (hT.at ht).1
  rw [htd] at hti
  obtain ⟨ad, rfl⟩ := Option.ne_none_iff_exists'.1 hb
  subst hn; subst hm
  have hnews : ∀ i u, (ys.flatMap enc)[i]? = some u → (at' w q).cell? (ad.add i) = some u := by
    intro i u hu
    have hpos := hE.pos
    have hlt : i < ys.length * s := by have := (List.getElem?_eq_some_iff.1 hu).1; rwa [length_flatMap' hE.len] at this
    have hdiv : i / s < ys.length := by rw [Nat.div_lt_iff_lt_mul hpos]; exact hlt
    have hyy : ys[i / s]? = some ys[i / s] := by simp [hdiv]
    obtain ⟨bb, off, hbb, hc⟩ := hr.elem _ _ hyy
    simp only [Option.some.injEq] at hbb
    subst hbb
    have hmod : i % s < s := Nat.mod_lt _ hpos
    have h1 := getElem?_flatMap' hE.len ys (i / s) (i % s) _ hyy hmod
    have h2 : i / s * s + i % s = i := by rw [Nat.mul_comm]; exact Nat.div_add_mod i s
    rw [h2, hu] at h1
    have key : ∀ (L : List Value) (o jj : Nat) (u : Value), Cells w bb o L → L[jj]? = some u → w.cell? ⟨bb, o + jj, none⟩ = some u := by
      intro L
      induction L with
      | nil => intro o jj u _ h; simp at h
      | cons v r ih =>
        intro o jj u hcc h
        cases jj with
        | zero => simp only [List.getElem?_cons_zero, Option.some.injEq] at h; subst h; exact hcc.1
        | succ jj => have := ih (o + 1) jj u hcc.2 (by simpa using h); rwa [show o + 1 + jj = o + (jj + 1) by omega] at this
    have := key _ _ _ u hc h1.symm
    rw [Addr_add_none]
    rw [show off + i / s * s + i % s = off + i by omega] at this
    exact this
  have hone : ∀ u ∈ ys.flatMap enc, u.oneCell' = true := by
    intro u hu
    obtain ⟨z, _, hz'⟩ := List.mem_flatMap.1 hu
    exact hE.one z u hz'
  obtain ⟨v', w', hrun, h2, h3, h4⟩ := run_append_own (P := P) (at' w q) B t tt el j ei.zero s ei.bytes hti hj1 hj4 (hj2.trans hs) hj3 hz hE.pos (.slice a xs.length cap) xs.length (xs.flatMap enc) ho ad ys.length c (ys.flatMap enc)
    (by rw [length_flatMap' hE.len]) hnews hone hbd.2.1 hbd.1 hbd.2.2
  have hv : ∃ a' cap', v' = .slice a' (xs ++ ys).length cap' ∧ (blk a' = blk a ∨ ∃ k, blk a' = some k ∧ w.heap.size ≤ k) := by
    have hmL : xs.length + ys.length ≤ 9223372036854775807 := by have := hbd.2.1; simp only [maxLen] at this; omega
    have hlY : (ys.flatMap enc).length = ys.length * j.size := by rw [length_flatMap' hE.len, hj2.trans hs]
    have hlX : (xs.flatMap enc).length = xs.length * j.size := by rw [length_flatMap' hE.len, hj2.trans hs]
    rcases ho.2 with ⟨h5, h6⟩ | ⟨gg, cc, cur, h5, h6, h7, h8, h9, h10, h11⟩
    · simp only [Value.slice.injEq] at h5
      obtain ⟨rfl, _, rfl⟩ := h5
      obtain rfl : xs = [] := List.eq_nil_of_length_eq_zero h6
      by_cases hm0 : ys.length = 0
      · have := h4.2 ⟨rfl, hm0⟩
        exact ⟨none, 0, by rw [this]; simp [hm0], .inl rfl⟩
      · have hr := run_append_nil (P := P) (at' w q) t tt el j ei.zero hti hj1 hj4 ad ys.length c (ys.flatMap enc) hlY hnews (by omega) (by simp at hmL; omega) (by have := hbd.1; simp only [List.length_nil, Nat.zero_add] at this; rw [hj3]; omega)
        simp only [List.length_nil] at hrun
        rw [hr] at hrun
        simp only [Result.ok.injEq] at hrun
        refine ⟨some ⟨w.heap.size, 0, none⟩, _, by rw [← hrun.1]; simp; rfl, .inr ⟨w.heap.size, rfl, Nat.le_refl _⟩⟩
    · simp only [Value.slice.injEq] at h5
      obtain ⟨rfl, _, rfl⟩ := h5
      by_cases hroom : xs.length + ys.length ≤ cap
      · have hr := run_append_room (P := P) (at' w q) t tt el j hti hj1 gg xs.length cap cur h7 ad ys.length c (ys.flatMap enc) hlY hnews hone hroom (by rw [hlY, ← Nat.add_mul, h10, hj2.trans hs]; exact Nat.mul_le_mul_right _ hroom)
        rw [hr] at hrun
        simp only [Result.ok.injEq] at hrun
        exact ⟨some ⟨gg, 0, none⟩, cap, by rw [← hrun.1, List.length_append], .inl rfl⟩
      · have holds : ∀ i u, (xs.flatMap enc)[i]? = some u → (at' w q).cell? ((⟨gg, 0, none⟩ : Addr).add i) = some u := World.ownsRow.cells (v := .slice (some ⟨gg, 0, none⟩) xs.length cap) (g := gg) ho rfl
        have hr := run_append_grow (P := P) (at' w q) t tt el j ei.zero hti hj1 hj4 ⟨gg, 0, none⟩ xs.length cap (xs.flatMap enc) hlX holds ad ys.length c (ys.flatMap enc) hlY hnews (by omega) (by omega) (growslice_fits (by omega) (by rw [hj3]; exact hbd.1))
        rw [hr] at hrun
        simp only [Result.ok.injEq] at hrun
        exact ⟨some ⟨w.heap.size, 0, none⟩, _, by rw [← hrun.1, List.length_append], .inr ⟨w.heap.size, rfl, Nat.le_refl _⟩⟩
  obtain ⟨a', cap', rfl, hfresh⟩ := hv
  unfold Oper.wp
  have hexec : (execOp ac.eval ⟨some d, .call ⟨.builtin .append, ⟨[x, y]⟩, ⟨[t, t]⟩⟩, tt, ps, af, g⟩).run P (at' w q) = .ok (.value (.slice a' (xs ++ ys).length cap')) w' := by
    simp only [execOp, resolve, invoke, builtin, Sem.run_bind, Sem.run_pure, Result.andThen_ok, List.map_toArray, List.map_cons, List.map_nil, hf.eval hx, hf.eval hy, hrun]
  rw [hexec]
  have hO : Own s enc el B w' a' cap' (xs ++ ys) := by
    unfold Own
    rw [List.flatMap_append, List.length_append] at *
    exact h2
  have hU : Upd B a w w' := ⟨⟨h3.os, h3.tape, h3.output, h3.size, by rw [ownBlock_slice] at h3; exact h3.block⟩, fun k hk => (ho.blk_lt k hk).1⟩
  exact (k a' cap' w' hO hU hfresh).go _ w'.drawn (hf.put (by simpa [Nat.blt_eq] using hd) _)

/-- 'append' of one element that lies in a new block of its own. -/
theorem WL.append1 {x y : Operand} {a : Option Addr} {gb n cap : Nat} {xs : List α} {z : α} {cs : List Value} {wo w0 : World} (hT : OkTab P T) (hE : Enc s enc) (hg : gate ops e g = some true) (hd : Nat.blt d N = true)
    (hx : ev e x = some (.slice a n cap)) (hy : ev e y = some (.slice (some ⟨gb, 0, none⟩) 1 1)) (ht : tget T t = some ti) (htd : ti.desc = .slice el) (he : tget T el = some ei) (hs : ei.size = s) (hz : ei.zero.cells.size = s) (hby : Nat.ble ei.bytes 1024 = true)
    (ho : Own s enc el B wo a cap xs) (hwo : Ext wo w) (hn : xs.length = n) (hc : Cells w gb 0 cs) (hcs : enc z = cs) (hB : w0.heap.size = B) (hX : Ext w0 w) (hbd : xs.length + 1 ≤ 137438953472)
    (k : ∀ a' cap' w', Own s enc el B w' a' cap' (xs ++ [z]) → Ext w0 w' → Upd B a w w' → (blk a' = blk a ∨ ∃ k, blk a' = some k ∧ w.heap.size ≤ k) → WL P N ops.toArray l ((d, .slice a' (xs ++ [z]).length cap') :: e) w' Q) :
    WL P N ops.toArray (⟨some d, .call ⟨.builtin .append, ⟨[x, y]⟩, ⟨[t, t]⟩⟩, tt, ps, af, g⟩ :: l) e w Q := by
  have hb' := Nat.le_of_ble_eq_true hby
  refine WL.append (B := B) (enc := enc) (ys := [z]) hT hE hg hd hx hy ht htd he hs hz (ho.ext hwo) hn ?_ rfl (by simp) ⟨?_, ?_, ?_⟩ ?_
  · refine ⟨by simp, fun i q hq => ?_⟩
    cases i with
    | zero => simp only [List.getElem?_cons_zero, Option.some.injEq] at hq; subst hq; exact ⟨gb, 0, rfl, by rw [hcs]; simpa using hc⟩
    | succ i => simp at hq
  · rw [← hn]; calc (xs.length + 1) * ei.bytes ≤ 137438953472 * 1024 := Nat.mul_le_mul hbd hb'
      _ ≤ _ := by decide
  · rw [← hn]; simp only [maxLen]; omega
  · rw [← hB]; exact hX.size
  · intro a' cap' w' h1 h2 h3
    exact k a' cap' w' h1 (h2.ext hX (Nat.le_of_eq hB)) h2 h3

/-- A new row with these cells. -/
def fresh (w : World) (cs : Array Value) (el : TypeId) : World := w.alloc (.cells cs el)
theorem fresh_ext (w : World) (cs : Array Value) (el : TypeId) : Ext w (fresh w cs el) := (Below.refl _ _).alloc (Nat.le_refl _) _
theorem fresh_block (w : World) (cs : Array Value) (el : TypeId) : (fresh w cs el).heap[w.heap.size]? = some (.cells cs el (0, 0)) := heap_alloc_new w _
theorem fresh_cells (w : World) (cs : Array Value) (el : TypeId) : Cells (fresh w cs el) w.heap.size 0 cs.toList := by
  refine cells_of fun j u hj => ?_
  rw [Nat.zero_add]
  simp only [World.cell?, fresh_block]
  simpa using hj

theorem Own.fresh {α : Type} {s : Nat} {enc : α → List Value} {el : TypeId} {B : Nat} (hE : ∀ x, (enc x).length = s) (w : World) (l : List α) (hB : B ≤ w.heap.size) (hm : l.length ≤ maxLen) : Own s enc el B (fresh w (l.flatMap enc).toArray el) (some ⟨w.heap.size, 0, none⟩) l.length l := by
  have := World.ownsRow_lit (base := B) (e := el) (size := s) w (l.flatMap enc).toArray l.length hB hm (by simpa using length_flatMap' hE l)
  simpa [Own, Lt.fresh] using this

/-- Parts by number, as they are in the environment. -/
def evp (e : Env) : List (Nat × Operand) → Option (List (Nat × Value))
  | [] => some []
  | (i, x) :: r =>
    (match ev e x with
     | some v =>
       (match evp e r with
        | some vs => some ((i, v) :: vs)
        | none => none)
     | none => none)
theorem evp_map {e : Env} {ρ : Operand → Value} (hρ : ∀ x u, ev e x = some u → ρ x = u) : ∀ {l : List (Nat × Operand)} {vs : List (Nat × Value)}, evp e l = some vs → l.map (fun p => (p.1, ρ p.2)) = vs
  | [], vs, h => by simp [evp] at h; simp [h]
  | (i, x) :: r, vs, h => by
    unfold evp at h
    split at h
    · rename_i v hv
      split at h
      · rename_i us hus
        simp only [Option.some.injEq] at h; subst h
        simp [hρ _ _ hv, evp_map hρ hus]
      · cases h
    · cases h

def catCells : List (Nat × Value) → List Value
  | [] => []
  | (_, v) :: r => v.cells.toList ++ catCells r

/-- A slice written out. -/
theorem WL.lit {len : Nat} {parts : List (Nat × Operand)} {pvs : List (Nat × Value)} (hT : OkTab P T) (hg : gate ops e g = some true) (hd : Nat.blt d N = true) (ht : tget T t = some ti) (htd : ti.desc = .slice el) (he : tget T el = some ei)
    (hp : evp e parts = some pvs) (hfill : Instr.fill (fun i => some (i * ei.size, ei.size)) ((Array.range (len * ei.size)).map (fun i => ei.zero.cells[i % ei.zero.cells.size]!)) pvs = some (List.toArray (catCells pvs))) (hle : Nat.ble (len * ei.size) 16777216 = true)
    (k : ∀ gb w', w'.heap[gb]? = some (.cells (List.toArray (catCells pvs)) el (0, 0)) → w.heap.size ≤ gb → Cells w' gb 0 (catCells pvs) → Ext w w' → WL P N ops.toArray l ((d, .slice (some ⟨gb, 0, none⟩) len len) :: e) w' Q) :
    WL P N ops.toArray (⟨some d, .buildSlice t len ⟨parts⟩, tt, ps, af, g⟩ :: l) e w Q := by
  refine WL.eff (v := .slice (some ⟨w.heap.size, 0, none⟩) len len) (w' := fun m => fresh (at' w m) (List.toArray (catCells pvs)) el) hg hd ?_ (fun m => k _ _ (fresh_block (at' w m) _ el) (Nat.le_refl _) (by have := fresh_cells (at' w m) (List.toArray (catCells pvs)) el; simpa using this) ((Ext.refl w).at m |>.trans (fresh_ext _ _ _)))
  intro ρ hρ m
  have h1 := run_underlying' (hT.at ht); rw [htd] at h1
  have h2 := run_sizeOf' (hT.at he)
  have h3 := run_zeroValue' (hT.at he)
  have hle' : ¬ (16777216 < len * ei.size) := by have := Nat.le_of_ble_eq_true hle; omega
  have h4 := evp_map hρ hp
  have hrun : (Instr.buildSlice t len ⟨pvs⟩).run P (at' w m) = .ok (.slice (some ⟨w.heap.size, 0, none⟩) len len) (fresh (at' w m) (List.toArray (catCells pvs)) el) := by
    unfold Instr.buildSlice
    simp only [Sem.run_bind, h1, Result.andThen_ok, h2, Nat.reducePow, gt_iff_lt, hle', if_false, Sem.run_pure]
    by_cases h0 : len * ei.size = 0
    · simp only [h0, if_true, Sem.run_pure, Result.andThen_ok]
      have hz : ∀ f : Nat → Value, (Array.range 0).map f = #[] := fun f => by simp
      rw [h0, hz] at hfill
      simp only [hz, hfill, Sem.run_bind, Sem.run_pure, Result.andThen_ok]
      simp [newRow, newObj, Sem.run, fresh]
      rfl
    · simp only [h0, if_false, Sem.run_bind, h3, Result.andThen_ok, Sem.run_pure, hfill]
      simp [newRow, newObj, Sem.run, fresh]
      rfl
  simp [execOp, h4, hrun]

/-- 'make([]T, n)': n zero elements. -/
theorem WL.make {α : Type} {s : Nat} {enc : α → List Value} {x y : Operand} {kx ky : IntKind} {i : Int} {z : α} {w0 : World} (hT : OkTab P T) (hg : gate ops e g = some true) (hd : Nat.blt d N = true)
    (hx : ev e x = some (.int kx i)) (hy : ev e y = some (.int ky i)) (ht : tget T t = some ti) (htd : ti.desc = .slice el) (he : tget T el = some ei) (hs : ei.size = s) (hby : Nat.ble ei.bytes 1024 = true)
    (hE : Enc s enc) (hz : enc z = ei.zero.cells.toList) (hzs : ei.zero.cells.size = s) (hX : Ext w0 w) (hi : 0 ≤ i ∧ i ≤ 137438953472)
    (k : ∀ gb w', Own s enc el w0.heap.size w' (some ⟨gb, 0, none⟩) i.toNat (List.replicate i.toNat z) → w.heap.size ≤ gb → Ext w w' → WL P N ops.toArray l ((d, .slice (some ⟨gb, 0, none⟩) (List.replicate i.toNat z).length i.toNat) :: e) w' Q) :
    WL P N ops.toArray (⟨some d, .makeSlice t x y, tt, ps, af, g⟩ :: l) e w Q := by
  obtain ⟨n, rfl⟩ := Int.eq_ofNat_of_zero_le hi.1
  obtain ⟨j, hj1, hj2, hj3, hj4⟩ := (hT.at he).info
  have hti := (hT.at ht).1
  rw [htd] at hti
  have hb' := Nat.le_of_ble_eq_true hby
  have hn : n ≤ 137438953472 := by omega
  have hrep : madeCells ei.zero.cells (n * s) = ((List.replicate n z).flatMap enc).toArray := by
    apply Array.ext'
    simp only [madeCells, Array.toList_map, Array.toList_range]
    apply List.ext_getElem?
    intro q
    have hpos := hE.pos
    by_cases hq : q < n * s
    · have hdiv : q / s < n := by rw [Nat.div_lt_iff_lt_mul hpos]; exact hq
      have hmod : q % s < s := Nat.mod_lt _ hpos
      have h1 := getElem?_flatMap' hE.len (List.replicate n z) (q / s) (q % s) z (by simp [hdiv]) hmod
      have h2 : q / s * s + q % s = q := by rw [Nat.mul_comm]; exact Nat.div_add_mod q s
      rw [h2] at h1
      rw [h1, hz]
      simp [hq, hzs, hmod]
    · have h1 : ((List.replicate n z).flatMap enc).length = n * s := by rw [length_flatMap' hE.len]; simp
      rw [List.getElem?_eq_none (by simp; omega), List.getElem?_eq_none (by omega)]
  refine WL.eff (v := .slice (some ⟨w.heap.size, 0, none⟩) (List.replicate n z).length n) (w' := fun m => fresh (at' w m) ((List.replicate n z).flatMap enc).toArray el) hg hd ?_ (fun m => ?_)
  · intro ρ hρ m
    have hr := run_make (P := P) (at' w m) t el j ei.zero hti hj1 hj4 kx ky (n : Int) (n : Int) (by omega) (by omega) (by
      rw [hj3]
      have : ((ei.bytes : Int)) ≤ 1024 := by omega
      calc (ei.bytes : Int) * (n : Int) ≤ 1024 * 137438953472 := Int.mul_le_mul this (by omega) (by omega) (by omega)
        _ ≤ _ := by decide) (by omega)
    have e1 : ((n : Int).toNat * j.size) = n * s := by rw [hj2, hs]; simp
    rw [e1, hrep] at hr
    simp only [Int.toNat_natCast] at hr
    simp [execOp, hρ _ _ hx, hρ _ _ hy, hr, fresh]
  · have hO := Own.fresh (α := α) (enc := enc) (el := el) hE.len (at' w m) (List.replicate n z) (B := w0.heap.size) hX.size (by simp only [List.length_replicate, maxLen]; omega)
    simp only [List.length_replicate] at hO
    exact k w.heap.size _ hO (Nat.le_refl _) ((Ext.refl w).at m |>.trans (fresh_ext _ _ _))

/-- A new variable. -/
theorem WL.alloc (hT : OkTab P T) (hg : gate ops e g = some true) (hd : Nat.blt d N = true) (ht : tget T t = some ti)
    (k : ∀ gb w', w'.heap[gb]? = some (.cells ti.zero.cells t (0, 0)) → w.heap.size ≤ gb → Ext w w' → WL P N ops.toArray l ((d, .pointer (some ⟨gb, 0, none⟩)) :: e) w' Q) :
    WL P N ops.toArray (⟨some d, .alloc t, tt, ps, af, g⟩ :: l) e w Q := by
  refine WL.eff (v := .pointer (some ⟨w.heap.size, 0, none⟩)) (w' := fun m => fresh (at' w m) ti.zero.cells t) hg hd ?_ (fun m => k _ _ (fresh_block (at' w m) _ t) (Nat.le_refl _) ((Ext.refl w).at m |>.trans (fresh_ext _ _ _)))
  intro ρ hρ m
  have h3 := run_zeroValue' (hT.at ht)
  simp [execOp, Instr.alloc, h3, newVar, newRow, newObj, Sem.run, fresh]
end rules
end Go.Lt
namespace Go.Lt
open Go.RowKit
set_option linter.unusedVariables false
set_option linter.unusedSimpArgs false

theorem flatMap_set' {α : Type} {s : Nat} {enc : α → List Value} (h : ∀ x, (enc x).length = s) (z' : α) : ∀ (xs : List α) (i : Nat), i < xs.length → (xs.set i z').flatMap enc = (xs.flatMap enc).take (i * s) ++ enc z' ++ (xs.flatMap enc).drop (i * s + s)
  | [], i, hi => by simp at hi
  | x :: r, 0, hi => by simp [List.drop_append, h x, (show (enc x).drop s = [] from List.drop_eq_nil_of_le (by rw [h x]; exact Nat.le_refl _))]
  | x :: r, i + 1, hi => by
    have ih := flatMap_set' h z' r i (by simpa using hi)
    have e1 : (i + 1) * s = (enc x).length + i * s := by rw [h, Nat.add_mul]; omega
    simp only [List.set_cons_succ, List.flatMap_cons, ih, e1]
    rw [List.take_append, List.drop_append]
    simp only [Nat.add_sub_cancel_left]
    rw [List.take_of_length_le (l := enc x) (by omega), List.drop_eq_nil_of_le (by omega : (enc x).length ≤ _)]
    rw [show (enc x).length + i * s + s - (enc x).length = i * s + s by omega]
    simp [List.append_assoc]

theorem splice_take (L cs : List Value) (q s M : Nat) (hcs : cs.length = s) (hq : q + s ≤ M) (hM : M ≤ L.length) : (L.take q ++ cs ++ L.drop (q + s)).take M = (L.take M).take q ++ cs ++ (L.take M).drop (q + s) := by
  rw [List.take_take, Nat.min_eq_left (by omega), List.drop_take, List.append_assoc, List.append_assoc, List.take_append, List.length_take, Nat.min_eq_left (by omega)]
  rw [List.take_of_length_le (l := L.take q) (by rw [List.length_take]; omega), List.take_append, hcs, List.take_of_length_le (l := cs) (by omega)]
  rw [show M - q - s = M - (q + s) by omega]

section
variable {P : Program}
theorem run_storeVar' {t : Nat} {i : TI} (h : i.Ok P t) (g q : Nat) (el : TypeId) (cur : Array Value) (w : World) (v : Value) (hg : w.heap[g]? = some (.cells cur el (0, 0))) (hs : v.cells.size = i.size) (hq : q + v.cells.size ≤ cur.size) (h1 : ∀ u ∈ v.cells.toList, u.oneCell' = true) :
    (storeVar t ⟨g, q, none⟩ v).run P w = .ok () (w.setRow g (cur.toList.take q ++ v.cells.toList ++ cur.toList.drop (q + v.cells.size)).toArray) := by
  have h2 := run_sizeOf' h
  have h3 := run_storeCells_at P g q el v.cells.toList 0 cur w hg (by simpa using hq) h1
  simp only [Nat.add_zero, Array.length_toList] at h3
  simp only [storeVar, Sem.run_bind, h2, Result.andThen_ok, hs, ne_eq, not_true_eq_false, if_false, Sem.run_pure]
  rw [hs] at h3
  simpa using h3
end

section rules
variable {P : Program} {N : Nat} {e : Env} {w : World} {Q : Exit → Act → World → Prop} {ops : List Oper} {l : List Oper} {T : Tab}
  {d : Nat} {tt : TypeId} {ps : String} {af : Array Edge} {g : Option (Nat × Bool)} {t : TypeId} {α : Type} {s : Nat} {enc : α → List Value} {B : Nat} {ti ei : TI} {el : TypeId}

/-- The address of an element of one's own row. -/
theorem yindexO {C : World → Prop} {dd : Option Tmp} {x y : Operand} {a : Option Addr} {xs : List α} {n cap : Nat} {k : IntKind} {i : Int} {z : α} {wo : World} (hT : OkTab P T)
    (hx : ev e x = some (.slice a n cap)) (hy : ev e y = some (.int k i)) (ht : tget T t = some ti) (hd : ti.desc = .slice el) (he : tget T el = some ei) (hs : ei.size = s) (hE : Enc s enc)
    (ho : Own s enc el B wo a cap xs) (E : Ext wo w) (hn : xs.length = n) (h0 : 0 ≤ i) (hz : xs[i.toNat]? = some z) :
    ∃ gb, a = some ⟨gb, 0, none⟩ ∧ Cells w gb (i.toNat * s) (enc z) ∧ Yields P e ⟨dd, .indexAddr t x y, tt, ps, af, g⟩ (.pointer (some ⟨gb, i.toNat * s, none⟩)) := by
  obtain ⟨b, off, ha, hc⟩ := (ho.row hE).elem _ _ hz
  have hoff : off = 0 := by
    rcases ho.2 with ⟨h1, _⟩ | ⟨g', c', cur, h1, _⟩
    · rw [ha] at h1; simp at h1
    · rw [ha] at h1; simp only [Value.slice.injEq, Option.some.injEq, Addr.mk.injEq] at h1; exact h1.1.2.1
  subst hoff
  refine ⟨b, ha, by simpa using hc.ext E, ?_⟩
  intro ρ hρ w'
  have hlt : i.toNat < xs.length := (List.getElem?_eq_some_iff.1 hz).1
  have h1 := run_underlying' (hT.at ht); rw [hd] at h1
  have h2 := run_sizeOf' (hT.at he); rw [hs] at h2
  have h3 : i < (n : Int) := by omega
  subst ha
  simp [execOp, hρ _ _ hx, hρ _ _ hy, Instr.indexAt, asIntOf, h1, h2, h0, h3, Addr_add_none]

theorem WL.indexO {x y : Operand} {a : Option Addr} {xs : List α} {n cap : Nat} {kk : IntKind} {i : Int} {z : α} {wo : World} (hT : OkTab P T) (hg : gate ops e g = some true) (hd : Nat.blt d N = true)
    (hx : ev e x = some (.slice a n cap)) (hy : ev e y = some (.int kk i)) (ht : tget T t = some ti) (htd : ti.desc = .slice el) (he : tget T el = some ei) (hs : ei.size = s)
    (ho : Own s enc el B wo a cap xs) (E : Ext wo w) (hE : Enc s enc) (hn : xs.length = n) (h0 : 0 ≤ i) (hz : xs[i.toNat]? = some z)
    (k : ∀ gb, a = some ⟨gb, 0, none⟩ → Cells w gb (i.toNat * s) (enc z) → WL P N ops.toArray l ((d, .pointer (some ⟨gb, i.toNat * s, none⟩)) :: e) w Q) : WL P N ops.toArray (⟨some d, .indexAddr t x y, tt, ps, af, g⟩ :: l) e w Q := by
  obtain ⟨gb, ha, hc, hy'⟩ := yindexO (P := P) (dd := some d) (C := Same w) (t := t) (tt := tt) (x := x) (y := y) (ps := ps) (af := af) (g := g) hT hx hy ht htd he hs hE ho E hn h0 hz
  exact WL.step hg hd hy'.in (k gb ha hc)
theorem SL.indexO {K : Act → World → Prop} {x y : Operand} {a : Option Addr} {xs : List α} {n cap : Nat} {kk : IntKind} {i : Int} {z : α} {wo : World} (hT : OkTab P T) (hg : gate ops e g = some true) (hd : Nat.blt d N = true)
    (hx : ev e x = some (.slice a n cap)) (hy : ev e y = some (.int kk i)) (ht : tget T t = some ti) (htd : ti.desc = .slice el) (he : tget T el = some ei) (hs : ei.size = s)
    (ho : Own s enc el B wo a cap xs) (E : Ext wo w) (hE : Enc s enc) (hn : xs.length = n) (h0 : 0 ≤ i) (hz : xs[i.toNat]? = some z)
    (k : ∀ gb, a = some ⟨gb, 0, none⟩ → Cells w gb (i.toNat * s) (enc z) → SL P N ops.toArray l ((d, .pointer (some ⟨gb, i.toNat * s, none⟩)) :: e) w K) : SL P N ops.toArray (⟨some d, .indexAddr t x y, tt, ps, af, g⟩ :: l) e w K := by
  obtain ⟨gb, ha, hc, hy'⟩ := yindexO (P := P) (dd := some d) (C := Same w) (t := t) (tt := tt) (x := x) (y := y) (ps := ps) (af := af) (g := g) hT hx hy ht htd he hs hE ho E hn h0 hz
  exact SL.step hg hd hy'.in (k gb ha hc)
theorem QL.indexO {C : World → Prop} [Cls C w] {x y : Operand} {a : Option Addr} {xs : List α} {n cap : Nat} {kk : IntKind} {i : Int} {z : α} {wo : World} (hT : OkTab P T) (hg : gate ops e g = some true) (hd : Nat.blt d N = true)
    (hx : ev e x = some (.slice a n cap)) (hy : ev e y = some (.int kk i)) (ht : tget T t = some ti) (htd : ti.desc = .slice el) (he : tget T el = some ei) (hs : ei.size = s)
    (ho : Own s enc el B wo a cap xs) (E : Ext wo w) (hE : Enc s enc) (hn : xs.length = n) (h0 : 0 ≤ i) (hz : xs[i.toNat]? = some z)
    (k : ∀ gb, a = some ⟨gb, 0, none⟩ → Cells w gb (i.toNat * s) (enc z) → QL P N C ops.toArray l ((d, .pointer (some ⟨gb, i.toNat * s, none⟩)) :: e) Q) : QL P N C ops.toArray (⟨some d, .indexAddr t x y, tt, ps, af, g⟩ :: l) e Q := by
  obtain ⟨gb, ha, hc, hy'⟩ := yindexO (P := P) (dd := some d) (C := C) (t := t) (tt := tt) (x := x) (y := y) (ps := ps) (af := af) (g := g) hT hx hy ht htd he hs hE ho E hn h0 hz
  exact QL.step hg hd hy'.in (k gb ha hc)

/-- A store into an element of one's own row. -/
theorem WL.storeO {x y : Operand} {gb q i cap : Nat} {v : Value} {xs : List α} {z z' : α} {wo w0 : World} (hT : OkTab P T) (hg : gate ops e g = some true)
    (hx : ev e x = some (.pointer (some ⟨gb, q, none⟩))) (hy : ev e y = some v) (ht : tget T t = some ei)
    (ho : Own s enc el B wo (some ⟨gb, 0, none⟩) cap xs) (hwo : Ext wo w) (hq : q = i * s) (hv : enc z' = v.cells.toList) (hs : ei.size = s) (hE : Enc s enc) (hz : xs[i]? = some z) (hB : w0.heap.size = B) (hX : Ext w0 w)
    (k : ∀ w', Own s enc el B w' (some ⟨gb, 0, none⟩) cap (xs.set i z') → Ext w0 w' → Upd B (some ⟨gb, 0, none⟩) w w' → WL P N ops.toArray l e w' Q) :
    WL P N ops.toArray (⟨none, .store t x y, tt, ps, af, g⟩ :: l) e w Q := by
  subst hq
  have hi : i < xs.length := (List.getElem?_eq_some_iff.1 hz).1
  have ho' := ho.ext hwo
  have hO := ho'
  rcases ho'.2 with ⟨h1, _⟩ | ⟨g', c', cur, h1, h2, h3, h4, h5, h6, h7⟩
  · simp at h1
  simp only [Value.slice.injEq, Option.some.injEq, Addr.mk.injEq, and_true, true_and] at h1
  obtain ⟨rfl, rfl⟩ := h1
  have hvs : v.cells.size = s := by have := congrArg List.length hv; rw [hE.len] at this; simpa using this.symm
  have hle : i * s + s ≤ xs.length * s := by rw [← Nat.succ_mul]; exact Nat.mul_le_mul_right s hi
  have hle2 : xs.length * s ≤ cap * s := Nat.mul_le_mul_right s h4
  have hone : ∀ u ∈ v.cells.toList, u.oneCell' = true := fun u hu => hE.one z' u (by rw [hv]; exact hu)
  refine WL.effN (w' := fun m => (at' w m).setRow gb (cur.toList.take (i * s) ++ v.cells.toList ++ cur.toList.drop (i * s + v.cells.size)).toArray) hg ?_ (fun m => ?_)
  · intro ρ hρ m
    have hr := run_storeVar' (hT.at ht) gb (i * s) el cur (at' w m) v h3 (hvs.trans hs.symm) (by rw [hvs, h6]; omega) hone
    simp [execOp, hρ _ _ hx, hρ _ _ hy, Instr.storeAt, Instr.sureAddr, hr]
  · have hU : Upd B (some ⟨gb, 0, none⟩) w ((at' w m).setRow gb (cur.toList.take (i * s) ++ v.cells.toList ++ cur.toList.drop (i * s + v.cells.size)).toArray) :=
      ⟨⟨rfl, rfl, rfl, by simp [World.setRow], fun k hk hne => setRow_other (at' w m) gb k _ (fun hh => hne (by rw [hh]; rfl))⟩, fun k hk => (hO.blk_lt k hk).1⟩
    refine k _ ?_ (hU.ext hX (Nat.le_of_eq hB)) hU
    refine ⟨by rw [length_flatMap' hE.len], .inr ⟨gb, cap, _, rfl, h2, setRow_heap (at' w m) gb cur _ el _ h3, by simpa using h4, h5, ?_, ?_⟩⟩
    · have := cur.size
      simp only [List.size_toArray, List.length_append, List.length_take, List.length_drop, Array.length_toList, hvs, h6]
      omega
    · simp only [List.length_set]
      rw [hvs, splice_take cur.toList v.cells.toList (i * s) s (xs.length * s) (by simpa using hvs) hle (by simp [h6]; exact hle2), h7, flatMap_set' hE.len z' xs i hi, hv]

end rules
end Go.Lt
namespace Go.Lt
open Go.RowKit
set_option linter.unusedVariables false
set_option linter.unusedSimpArgs false
section rules
variable {P : Program} {N : Nat} {e : Env} {w : World} {Q : Exit → Act → World → Prop} {ops : List Oper} {l : List Oper} {T : Tab}
  {d : Nat} {tt : TypeId} {ps : String} {af : Array Edge} {g : Option (Nat × Bool)}

theorem WL.at {ops : Array Oper} {m : Nat} (h : WL P N ops l e w Q) : WL P N ops l e (at' w m) Q := ⟨fun a n hf => h.go a n hf⟩
theorem Z.at {x : Exit} {m : Nat} (h : Z N Q x e w) : Z N Q x e (at' w m) := ⟨fun a n hf => h.go a n hf⟩
theorem Still.at {f : FuncId} {args : List Value} {v : Value} (h : Still P f args w v) (m : Nat) : Still P f args (at' w m) v := ⟨h.1, fun n => h.2 n⟩

/-- A call that answers v and leaves the world alone. -/
theorem WL.callS {f : FuncId} {args : List Operand} {ts : Array TypeId} {c : Operand} {us vs : List Value} {v : Value}
    (hg : gate ops e g = some true) (hd : Nat.blt d N = true) (hc : ev e c = some (.func (.func f) #[] us.toArray)) (hv : evs e args = some vs)
    (h : Still P f (vs ++ us) w v) (k : WL P N ops.toArray l ((d, v) :: e) w Q) : WL P N ops.toArray (⟨some d, .call ⟨.value c, args.toArray, ts⟩, tt, ps, af, g⟩ :: l) e w Q :=
  WL.call hg hd hc hv h fun u w' ⟨hu, m, hw⟩ => by subst hu; subst hw; exact k.at
/-- A call that answers v and makes memory. -/
theorem WL.callP {f : FuncId} {args : List Operand} {ts : Array TypeId} {c : Operand} {us vs : List Value} {v : Value}
    (hg : gate ops e g = some true) (hd : Nat.blt d N = true) (hc : ev e c = some (.func (.func f) #[] us.toArray)) (hv : evs e args = some vs)
    (h : Pure P f (vs ++ us) w v) (k : ∀ w', Ext w w' → WL P N ops.toArray l ((d, v) :: e) w' Q) : WL P N ops.toArray (⟨some d, .call ⟨.value c, args.toArray, ts⟩, tt, ps, af, g⟩ :: l) e w Q :=
  WL.call hg hd hc hv h fun u w' ⟨hu, hw⟩ => by subst hu; exact k w' hw
theorem QL.callS {f : FuncId} {args : List Operand} {ts : Array TypeId} {c : Operand} {us vs : List Value} {v : Value}
    (hg : gate ops e g = some true) (hd : Nat.blt d N = true) (hc : ev e c = some (.func (.func f) #[] us.toArray)) (hv : evs e args = some vs)
    (h : Still P f (vs ++ us) w v) (k : QL P N (Same w) ops.toArray l ((d, v) :: e) Q) : QL P N (Same w) ops.toArray (⟨some d, .call ⟨.value c, args.toArray, ts⟩, tt, ps, af, g⟩ :: l) e Q :=
  QL.call hg hd hc hv (quiet_same fun w' ⟨m, hw⟩ => by subst hw; exact h.at m) k
theorem QL.callP {f : FuncId} {args : List Operand} {ts : Array TypeId} {c : Operand} {us vs : List Value} {v : Value}
    (hg : gate ops e g = some true) (hd : Nat.blt d N = true) (hc : ev e c = some (.func (.func f) #[] us.toArray)) (hv : evs e args = some vs)
    (h : ∀ w', Ext w w' → Pure P f (vs ++ us) w' v) (k : QL P N (Ext w) ops.toArray l ((d, v) :: e) Q) : QL P N (Ext w) ops.toArray (⟨some d, .call ⟨.value c, args.toArray, ts⟩, tt, ps, af, g⟩ :: l) e Q :=
  QL.call hg hd hc hv (quiet_ext h) k
end rules

section known
variable {P : Program} {N : Nat} {e : Env} {w : World} {Q : Exit → Act → World → Prop} {K : Act → World → Prop} {C : World → Prop} {ops : List Oper} {l : List Oper}
theorem WL.gT {o : Option Tmp} {op : Op} {tt : TypeId} {ps : String} {af : Array Edge} {j : Nat} {g : Bool} {d : Nat} {b : Bool} (hj : dstAt ops j = some d) (hd : get e d = some (.bool b)) (hb : b = true)
    (k : WL P N ops.toArray (⟨o, op, tt, ps, af, some (j, g)⟩ :: l) ((d, .bool true) :: e) w Q) : WL P N ops.toArray (⟨o, op, tt, ps, af, some (j, g)⟩ :: l) e w Q :=
  WL.split hd (fun h => k) (fun h => absurd (h.symm.trans hb) (by decide))
theorem WL.gF {o : Option Tmp} {op : Op} {tt : TypeId} {ps : String} {af : Array Edge} {j : Nat} {g : Bool} {d : Nat} {b : Bool} (hj : dstAt ops j = some d) (hd : get e d = some (.bool b)) (hb : b = false)
    (k : WL P N ops.toArray (⟨o, op, tt, ps, af, some (j, g)⟩ :: l) ((d, .bool false) :: e) w Q) : WL P N ops.toArray (⟨o, op, tt, ps, af, some (j, g)⟩ :: l) e w Q :=
  WL.split hd (fun h => absurd (h.symm.trans hb) (by decide)) (fun h => k)
theorem QL.gT {o : Option Tmp} {op : Op} {tt : TypeId} {ps : String} {af : Array Edge} {j : Nat} {g : Bool} {d : Nat} {b : Bool} (hj : dstAt ops j = some d) (hd : get e d = some (.bool b)) (hb : b = true)
    (k : QL P N C ops.toArray (⟨o, op, tt, ps, af, some (j, g)⟩ :: l) ((d, .bool true) :: e) Q) : QL P N C ops.toArray (⟨o, op, tt, ps, af, some (j, g)⟩ :: l) e Q :=
  QL.split hd (fun h => k) (fun h => absurd (h.symm.trans hb) (by decide))
theorem QL.gF {o : Option Tmp} {op : Op} {tt : TypeId} {ps : String} {af : Array Edge} {j : Nat} {g : Bool} {d : Nat} {b : Bool} (hj : dstAt ops j = some d) (hd : get e d = some (.bool b)) (hb : b = false)
    (k : QL P N C ops.toArray (⟨o, op, tt, ps, af, some (j, g)⟩ :: l) ((d, .bool false) :: e) Q) : QL P N C ops.toArray (⟨o, op, tt, ps, af, some (j, g)⟩ :: l) e Q :=
  QL.split hd (fun h => absurd (h.symm.trans hb) (by decide)) (fun h => k)
theorem SL.gT {o : Option Tmp} {op : Op} {tt : TypeId} {ps : String} {af : Array Edge} {j : Nat} {g : Bool} {d : Nat} {b : Bool} (hj : dstAt ops j = some d) (hd : get e d = some (.bool b)) (hb : b = true)
    (k : SL P N ops.toArray (⟨o, op, tt, ps, af, some (j, g)⟩ :: l) ((d, .bool true) :: e) w K) : SL P N ops.toArray (⟨o, op, tt, ps, af, some (j, g)⟩ :: l) e w K :=
  SL.split hd (fun h => k) (fun h => absurd (h.symm.trans hb) (by decide))
theorem SL.gF {o : Option Tmp} {op : Op} {tt : TypeId} {ps : String} {af : Array Edge} {j : Nat} {g : Bool} {d : Nat} {b : Bool} (hj : dstAt ops j = some d) (hd : get e d = some (.bool b)) (hb : b = false)
    (k : SL P N ops.toArray (⟨o, op, tt, ps, af, some (j, g)⟩ :: l) ((d, .bool false) :: e) w K) : SL P N ops.toArray (⟨o, op, tt, ps, af, some (j, g)⟩ :: l) e w K :=
  SL.split hd (fun h => absurd (h.symm.trans hb) (by decide)) (fun h => k)
theorem W.condKT {c : Operand} {x y : Code} {b : Bool} (hc : ev e c = some (.bool b)) (hb : b = true) (h : W P N x e w Q) : W P N (.cond c x y) e w Q := by subst hb; exact W.condT hc h
theorem W.condKF {c : Operand} {x y : Code} {b : Bool} (hc : ev e c = some (.bool b)) (hb : b = false) (h : W P N y e w Q) : W P N (.cond c x y) e w Q := by subst hb; exact W.condF hc h
end known

abbrev encI : Int → List Value := fun n => [.int .i64 n]
theorem encI_ok : Enc 1 encI := ⟨fun _ => rfl, fun x u hu => by simp at hu; subst hu; rfl, by decide⟩
end Go.Lt
namespace Go.Lt
open Go.RowKit
set_option linter.unusedVariables false
set_option linter.unusedSimpArgs false

section more
variable {P : Program} {e : Env} {dd : Option Tmp} {t ty tt : TypeId} {x y : Operand} {ps : String} {af : Array Edge} {g : Option (Nat × Bool)} {a b : Int}
end more

theorem Row.take {α : Type} {s : Nat} {enc : α → List Value} {w : World} {a : Option Addr} {l : List α} (h : Row s enc w a l) (n : Nat) : Row s enc w a (l.take n) := by
  refine ⟨by have := h.len; rw [List.length_take]; omega, fun i x hi => ?_⟩
  rw [List.getElem?_take] at hi
  split at hi
  · exact h.elem i x hi
  · cases hi
section rules
variable {P : Program} {N : Nat} {e : Env} {w : World} {Q : Exit → Act → World → Prop} {ops : List Oper} {l : List Oper} {T : Tab}
  {d : Nat} {tt ty : TypeId} {ps : String} {af : Array Edge} {g : Option (Nat × Bool)} {t : TypeId} {α : Type} {s : Nat} {enc : α → List Value} {B : Nat} {ti ei : TI} {el : TypeId} {C : World → Prop}

/-- An append of nothing: what is nil is appended. -/
theorem run_append_nothing (hT : OkTab P T) {a : Option Addr} {n cap : Nat} {xs : List α} {w' : World} (ht : tget T t = some ti) (htd : ti.desc = .slice el) (he : tget T el = some ei) (ho : Own s enc el B w' a cap xs) (hs : ei.size = s) :
    (Builtin.append_ #[t, t] tt #[.slice a xs.length cap, .slice none 0 0]).run P w' = .ok (.slice a xs.length cap) w' := by
  obtain ⟨j, hj1, hj2, _⟩ := (hT.at he).info
  have hti := (hT.at ht).1
  rw [htd] at hti
  exact run_append_owned_none (P := P) w' B t tt el j s hti hj1 _ _ _ ho

/-- 'append(own, ys...)'. -/
theorem WL.appendS {x y : Operand} {a b : Option Addr} {n cap m c : Nat} {xs ys : List α} {wo w1 w0 : World} (hT : OkTab P T) (hE : Enc s enc) (hg : gate ops e g = some true) (hd : Nat.blt d N = true)
    (hx : ev e x = some (.slice a n cap)) (hy : ev e y = some (.slice b m c)) (ht : tget T t = some ti) (htd : ti.desc = .slice el) (he : tget T el = some ei) (hs : ei.size = s) (hz : ei.zero.cells.size = s) (hby : Nat.ble ei.bytes 1024 = true)
    (ho : Own s enc el B wo a cap xs) (hwo : Ext wo w) (hn : xs.length = n) (hr : Row s enc w1 b ys) (hw1 : Ext w1 w) (hm : ys.length = m) (hmc : b = none → c = 0) (hB : w0.heap.size = B) (hX : Ext w0 w)
    (hbd : xs.length + ys.length ≤ 137438953472)
    (k : ∀ a' cap' w', Own s enc el B w' a' cap' (xs ++ ys) → Ext w0 w' → Upd B a w w' → (blk a' = blk a ∨ ∃ k, blk a' = some k ∧ w.heap.size ≤ k) → WL P N ops.toArray l ((d, .slice a' (xs ++ ys).length cap') :: e) w' Q) :
    WL P N ops.toArray (⟨some d, .call ⟨.builtin .append, ⟨[x, y]⟩, ⟨[t, t]⟩⟩, tt, ps, af, g⟩ :: l) e w Q := by
  have hb' := Nat.le_of_ble_eq_true hby
  by_cases hb : b = none
  · subst hb
    have hys : ys = [] := by
      cases ys with
      | nil => rfl
      | cons z r => obtain ⟨b', off, h1, _⟩ := hr.elem 0 z rfl; cases h1
    subst hys
    obtain rfl := hmc rfl
    subst hn; subst hm
    have ho' := ho.ext hwo
    refine WL.eff (v := .slice a (xs ++ []).length cap) (w' := fun m => at' w m) hg hd ?_ (fun m => ?_)
    · intro ρ hρ m
      have := run_append_nothing (P := P) (tt := tt) (n := xs.length) hT ht htd he (w' := at' w m) ho' hs
      simp only [execOp, resolve, invoke, builtin, Sem.run_bind, Sem.run_pure, Result.andThen_ok, List.map_toArray, List.map_cons, List.map_nil, hρ _ _ hx, hρ _ _ hy, List.append_nil]
      rw [show ([] : List α).length = 0 from rfl, this]
      rfl
    · exact k a cap (at' w m) (by rw [List.append_nil]; exact ho') (hX.at m) ⟨⟨rfl, rfl, rfl, Nat.le_refl _, fun _ _ _ => rfl⟩, fun q hq => (ho'.blk_lt q hq).1⟩ (.inl rfl)
  · refine WL.append (B := B) (enc := enc) (ys := ys) hT hE hg hd hx hy ht htd he hs hz (ho.ext hwo) hn (hr.ext hw1) hm hb ⟨?_, ?_, ?_⟩ ?_
    · rw [← hn, ← hm]; calc (xs.length + ys.length) * ei.bytes ≤ 137438953472 * 1024 := Nat.mul_le_mul hbd hb'
        _ ≤ _ := by decide
    · rw [← hn, ← hm]; simp only [maxLen]; omega
    · rw [← hB]; exact hX.size
    · intro a' cap' w' h1 h2 h3
      exact k a' cap' w' h1 (h2.ext hX (Nat.le_of_eq hB)) h2 h3

theorem Own.noneCap {w' : World} {a : Option Addr} {cap : Nat} {xs : List α} (h : Own s enc el B w' a cap xs) : a = none → cap = 0 := by
  rintro rfl
  rcases h.2 with ⟨h1, _⟩ | ⟨_, _, _, h1, _⟩
  · simp only [Value.slice.injEq] at h1; exact h1.2.2
  · simp at h1

/-- An empty slice that is written out is one's own. -/
theorem Own.of_block0 {w' : World} {gb : Nat} (h : w'.heap[gb]? = some (.cells #[] el (0, 0))) (hB : B ≤ gb) : Own s enc el B w' (some ⟨gb, 0, none⟩) 0 ([] : List α) :=
  ⟨by simp, .inr ⟨gb, 0, #[], rfl, hB, h, Nat.le_refl _, Nat.zero_le _, by simp, by simp⟩⟩
end rules
end Go.Lt
namespace Go.Lt
open Go.RowKit
set_option linter.unusedVariables false
set_option linter.unusedSimpArgs false

/-- A word as a value. -/
abbrev u64 (x : BitVec 64) : Value := .int .u64 (x.toNat : Int)
section
variable {P : Program} {e : Env} {dd : Option Tmp} {t ty tt : TypeId} {x y : Operand} {ps : String} {af : Array Edge} {g : Option (Nat × Bool)} {a b : Int} {u v : BitVec 64}

end
section rules
variable {P : Program} {N : Nat} {e : Env} {w : World} {Q : Exit → Act → World → Prop} {K : Act → World → Prop} {C : World → Prop} {ops : List Oper} {l : List Oper} {T : Tab}
  {d : Nat} {tt ty : TypeId} {ps : String} {af : Array Edge} {g : Option (Nat × Bool)} {t : TypeId} {x y : Operand} {a b : Int} {u v : BitVec 64} {j : IntKind}
end rules
end Go.Lt
namespace Go.Lt
open Go.RowKit
set_option linter.unusedVariables false
set_option linter.unusedSimpArgs false

section
variable {P : Program} {N : Nat} {e : Env} {w : World} {Q : Exit → Act → World → Prop} {ops : List Oper}

theorem Z.tail {P : Program} {N : Nat} {e : Env} {w : World} {Q : Exit → Act → World → Prop} {ops : Array Oper} {tail : List Oper} {x : Exit} (h : WL P N ops tail e w Q) : Z N (fun _ a w' => wpList P ops Q tail a w') x e w := ⟨h.go⟩
end
end Go.Lt
namespace Go.Lt
open Go.RowKit
set_option linter.unusedVariables false
section
variable {P : Program} {N : Nat} {e : Env} {w : World} {Q : Exit → Act → World → Prop} {c : Code}

/-- What a round hands on. -/
def K1 (N : Nat) (I : Nat → Prop) (E : Nat → Env) (w : World) (k : Nat) : Act → World → Prop := fun ac w'' => I (k + 1) ∧ Fit N (E (k + 1)) ac ∧ ∃ m, w'' = at' w m
def KW (N : Nat) (I : Nat → World → Prop) (E : Nat → Env) (k : Nat) : Act → World → Prop := fun ac w'' => ∃ w1, I (k + 1) w1 ∧ Fit N (E (k + 1)) ac ∧ ∃ m, w'' = at' w1 m
def KO (N : Nat) (I : Nat → Option Addr → Nat → World → Prop) (E : Nat → Option Addr → Nat → Env) (k : Nat) : Act → World → Prop := fun ac w'' => ∃ a' cp' w1, I (k + 1) a' cp' w1 ∧ Fit N (E (k + 1) a' cp') ac ∧ ∃ m, w'' = at' w1 m
theorem W.loop1 (n : Nat) (I : Nat → Prop) (E : Nat → Env) (h0 : I 0) (hb : ∀ k, I k → k ≤ n) (hE : Sub (E 0) e)
    (round : ∀ k, I k → W P N c (E k) w (Exit.then (K1 N I E w k) Q)) : W P N (.loop c) e w Q := by
  refine W.loop (σ := Nat) I E (fun _ => w) (fun k => n + 1 - k) 0 h0 hE rfl fun k hk => ?_
  refine ⟨fun a m hf => wp_mono ((round k hk).go a m hf) fun x a' w' hq => ?_⟩
  cases x with
  | normal => obtain ⟨h1, h2, h3⟩ := hq; exact ⟨k + 1, h1, by have := hb k hk; omega, h2, h3⟩
  | _ => exact hq
theorem Z.again1 {I : Nat → Prop} {E : Nat → Env} {k : Nat} (h1 : I (k + 1)) (hs : Sub (E (k + 1)) e) : Z N (Exit.then (K1 N I E w k) Q) .normal e w :=
  ⟨fun a m hf => ⟨h1, hf.sub (e := e) (e' := E (k + 1)) hs, m, rfl⟩⟩

theorem W.loopW (n : Nat) (I : Nat → World → Prop) (E : Nat → Env) (h0 : I 0 w) (hb : ∀ k w', I k w' → k ≤ n) (hE : Sub (E 0) e)
    (round : ∀ k w', I k w' → W P N c (E k) w' (Exit.then (KW N I E k) Q)) : W P N (.loop c) e w Q := by
  refine W.loop (σ := Nat × World) (fun s => I s.1 s.2) (fun s => E s.1) (fun s => s.2) (fun s => n + 1 - s.1) (0, w) h0 hE rfl fun s hk => ?_
  refine ⟨fun a m hf => wp_mono ((round s.1 s.2 hk).go a m hf) fun x a' w' hq => ?_⟩
  cases x with
  | normal => obtain ⟨w1, h1, h2, h3⟩ := hq; exact ⟨(s.1 + 1, w1), h1, by have := hb _ _ hk; show n + 1 - (s.1 + 1) < n + 1 - s.1; omega, h2, h3⟩
  | _ => exact hq
theorem Z.againW {I : Nat → World → Prop} {E : Nat → Env} {k : Nat} (h1 : I (k + 1) w) (hs : Sub (E (k + 1)) e) : Z N (Exit.then (KW N I E k) Q) .normal e w :=
  ⟨fun a m hf => ⟨w, h1, hf.sub (e := e) (e' := E (k + 1)) hs, m, rfl⟩⟩

theorem W.loopO (n : Nat) (I : Nat → Option Addr → Nat → World → Prop) (E : Nat → Option Addr → Nat → Env) (a0 : Option Addr) (c0 : Nat) (h0 : I 0 a0 c0 w) (hb : ∀ k a cp w', I k a cp w' → k ≤ n) (hE : Sub (E 0 a0 c0) e)
    (round : ∀ k a cp w', I k a cp w' → W P N c (E k a cp) w' (Exit.then (KO N I E k) Q)) : W P N (.loop c) e w Q := by
  refine W.loop (σ := Nat × Option Addr × Nat × World) (fun s => I s.1 s.2.1 s.2.2.1 s.2.2.2) (fun s => E s.1 s.2.1 s.2.2.1) (fun s => s.2.2.2) (fun s => n + 1 - s.1) (0, a0, c0, w) h0 hE rfl fun s hk => ?_
  refine ⟨fun a m hf => wp_mono ((round s.1 s.2.1 s.2.2.1 s.2.2.2 hk).go a m hf) fun x a' w' hq => ?_⟩
  cases x with
  | normal => obtain ⟨a1, c1, w1, h1, h2, h3⟩ := hq; exact ⟨(s.1 + 1, a1, c1, w1), h1, by have := hb _ _ _ _ hk; show n + 1 - (s.1 + 1) < n + 1 - s.1; omega, h2, h3⟩
  | _ => exact hq
theorem Z.againO {I : Nat → Option Addr → Nat → World → Prop} {E : Nat → Option Addr → Nat → Env} {k : Nat} (a' : Option Addr) (cp' : Nat) (h1 : I (k + 1) a' cp' w) (hs : Sub (E (k + 1) a' cp') e) :
    Z N (Exit.then (KO N I E k) Q) .normal e w :=
  ⟨fun a m hf => ⟨a', cp', w, h1, hf.sub (e := e) (e' := E (k + 1) a' cp') hs, m, rfl⟩⟩

end

theorem getI {α : Type} (l : List α) {k : Nat} (h : k < l.length) : ∃ x, l[k]? = some x := ⟨l[k], by simp [h]⟩
theorem lt_of_get {α : Type} {l : List α} {k : Nat} {x : α} (h : l[k]? = some x) : k < l.length := (List.getElem?_eq_some_iff.1 h).1
end Go.Lt
namespace Go.Lt
open Go.RowKit
set_option linter.unusedVariables false
set_option linter.unusedSimpArgs false

section runs
variable {P : Program} {T : Tab}
end runs

section rules
variable {P : Program} {N : Nat} {e : Env} {w : World} {Q : Exit → Act → World → Prop} {ops : List Oper} {l : List Oper} {T : Tab}
  {d : Nat} {tt : TypeId} {ps : String} {af : Array Edge} {g : Option (Nat × Bool)} {t : TypeId} {ti : TI}

/-- What a store leaves as it was. -/
theorem Upd.heap {B gb : Nat} {w w' : World} {x : Obj} (hU : Upd B (some ⟨gb, 0, none⟩) w w') {g : Nat} (h : w.heap[g]? = some x) (hne : g ≠ gb) : w'.heap[g]? = some x := by
  have hlt := (Array.getElem?_eq_some_iff.1 h).1
  rw [← h]
  exact hU.grown.block g hlt (by simp [blk]; exact hne)
theorem Ext.heap {w w' : World} (h : Ext w w') {g : Nat} {x : Obj} (hx : w.heap[g]? = some x) : w'.heap[g]? = some x := by
  rw [h.block g (Array.getElem?_eq_some_iff.1 hx).1]; exact hx
theorem heap_lt {w : World} {g : Nat} {x : Obj} (hx : w.heap[g]? = some x) : g < w.heap.size := (Array.getElem?_eq_some_iff.1 hx).1
end rules
end Go.Lt
namespace Go.Lt
open Go.RowKit
set_option linter.unusedVariables false
set_option linter.unusedSimpArgs false

section own
variable {α : Type} {s : Nat} {enc : α → List Value} {el : TypeId} {B : Nat} {w : World} {a : Option Addr} {cap : Nat} {l : List α}
theorem Own.take (hE : Enc s enc) (h : Own s enc el B w a cap l) (k : Nat) : Own s enc el B w a cap (l.take k) := by
  rcases h.2 with ⟨h1, h2⟩ | ⟨g', c', cur, h1, h2, h3, h4, h5, h6, h7⟩
  · have : l = [] := List.eq_nil_of_length_eq_zero h2
    subst this; simpa using h
  · simp only [Value.slice.injEq, true_and] at h1
    obtain ⟨h1, rfl⟩ := h1
    refine ⟨by rw [length_flatMap' hE.len], .inr ⟨g', cap, cur, by rw [h1], h2, h3, by rw [List.length_take]; omega, h5, h6, ?_⟩⟩
    have hle : (l.take k).length * s ≤ l.length * s := Nat.mul_le_mul_right s (by rw [List.length_take]; omega)
    have e1 : l.flatMap enc = (l.take k).flatMap enc ++ (l.drop k).flatMap enc := by rw [← List.flatMap_append, List.take_append_drop]
    have e2 : cur.toList.take ((l.take k).length * s) = (cur.toList.take (l.length * s)).take ((l.take k).length * s) := by rw [List.take_take, Nat.min_eq_left hle]
    rw [e2, h7, e1, List.take_left' (length_flatMap' hE.len _)]
end own

section mm
variable {P : Program} {e : Env} {dd : Option Tmp} {tt : TypeId} {x y : Operand} {ps : String} {af : Array Edge} {g : Option (Nat × Bool)} {a b : Int} {kk : IntKind} {ts : Array TypeId}
end mm

section rules
variable {P : Program} {N : Nat} {e : Env} {w : World} {Q : Exit → Act → World → Prop} {ops : List Oper} {l : List Oper} {T : Tab}
  {d : Nat} {tt ty : TypeId} {ps : String} {af : Array Edge} {g : Option (Nat × Bool)} {t : TypeId} {α : Type} {s : Nat} {enc : α → List Value} {B : Nat} {ti ei : TI} {el : TypeId} {C : World → Prop}
end rules
end Go.Lt
namespace Go.Lt
open Go.RowKit
set_option linter.unusedVariables false
set_option linter.unusedSimpArgs false

section rules
variable {P : Program} {N : Nat} {e : Env} {w : World} {Q : Exit → Act → World → Prop} {ops : List Oper} {l : List Oper} {T : Tab}
  {d : Nat} {tt : TypeId} {ps : String} {af : Array Edge} {g : Option (Nat × Bool)} {t : TypeId} {α : Type} {s : Nat} {enc : α → List Value} {B : Nat} {ti ei : TI} {el : TypeId}

end rules

/-- A row beside the one that is written. -/
theorem Upd.apart {β : Type} {t : Nat} {enc' : β → List Value} {el' : TypeId} {B B' : Nat} {c a' ao : Option Addr} {co : Nat} {L : List β} {w w' : World} (hU : Upd B c w w') (hF : blk a' = blk c ∨ ∃ k, blk a' = some k ∧ w.heap.size ≤ k)
    (ho : Own t enc' el' B' w ao co L) (hne : blk ao = none ∨ blk ao ≠ blk c) : Own t enc' el' B' w' ao co L ∧ (blk ao = none ∨ blk ao ≠ blk a') := by
  refine ⟨hU.own ho hne, ?_⟩
  rcases hne with h | h
  · exact .inl h
  · refine .inr fun he => ?_
    rcases hF with hF | ⟨k, hk, hle⟩
    · exact h (he.trans hF)
    · have := (ho.blk_lt k (he.trans hk)).2
      omega
theorem Upd.trans {B : Nat} {a : Option Addr} {w w1 w2 : World} (h : Upd B a w w1) (k : Upd B a w1 w2) : Upd B a w w2 :=
  ⟨⟨k.grown.os.trans h.grown.os, k.grown.tape.trans h.grown.tape, k.grown.output.trans h.grown.output, Nat.le_trans h.grown.size k.grown.size, fun q hq hne => (k.grown.block q (Nat.lt_of_lt_of_le hq h.grown.size) hne).trans (h.grown.block q hq hne)⟩, h.from'⟩
def tab {α : Type} (m : Nat) (f : Nat → α) : List α := (List.range m).map f
theorem tab_len {α : Type} (m : Nat) (f : Nat → α) : (tab m f).length = m := by simp [tab]
theorem tab_get {α : Type} {m k : Nat} (f : Nat → α) (h : k < m) : (tab m f)[k]? = some (f k) := by simp [tab, h]
theorem tab_congr {α : Type} {m : Nat} {f g : Nat → α} (h : ∀ u, u < m → f u = g u) : tab m f = tab m g := List.map_congr_left (fun u hu => h u (List.mem_range.1 hu))
theorem tab_set {α : Type} {m k : Nat} {f g : Nat → α} {x : α} (h : ∀ u, u < m → g u = if u = k then x else f u) : (tab m f).set k x = tab m g := by
  apply List.ext_getElem?
  intro i
  by_cases hi : i < m
  · rw [tab_get g hi, List.getElem?_set, h i hi]
    by_cases hik : k = i
    · subst hik; rw [if_pos rfl, tab_len, if_pos hi, if_pos rfl]
    · rw [if_neg hik, tab_get f hi, if_neg (fun h => hik h.symm)]
  · rw [List.getElem?_eq_none (by rw [List.length_set, tab_len]; omega), List.getElem?_eq_none (by rw [tab_len]; omega)]
theorem tab_rep {α : Type} (m : Nat) (x : α) : List.replicate m x = tab m (fun _ => x) := by
  apply List.ext_getElem (by simp [tab])
  intro i h1 h2
  simp [tab]
theorem tab_eq {α : Type} {m : Nat} {f : Nat → α} {l : List α} (hl : l.length = m) (h : ∀ u x, l[u]? = some x → f u = x) : l = tab m f := by
  apply List.ext_getElem?
  intro i
  by_cases hi : i < m
  · obtain ⟨x, hx⟩ := getI l (show i < l.length by omega)
    rw [hx, tab_get f hi, h i x hx]
  · rw [List.getElem?_eq_none (by omega), List.getElem?_eq_none (by rw [tab_len]; omega)]
end Go.Lt
namespace Go.Lt
open Go.RowKit
set_option linter.unusedVariables false
set_option linter.unusedSimpArgs false

def onlyN (K : Act → World → Prop) : Exit → Act → World → Prop := fun x a w => match x with | .normal => K a w | _ => False

section float
variable {P : Program} {ops : Array Oper} {C : World → Prop} {early : Nat → Bool} {K : Act → World → Prop}

/-- The floating ones. -/
def wpFl (P : Program) (ops : Array Oper) (C : World → Prop) (Kf : Act → Prop) : List Oper → Act → Prop
  | [], a => Kf a
  | o :: r, a => if Region.wanted o (yielded ops a.tmps) then ∃ v, (∀ w, C w → (execOp a.eval o).run P w = .ok (.value v) w) ∧ wpFl P ops C Kf r (a.put o.dst v) else wpFl P ops C Kf r (a.put o.dst undef)

/-- Those of the others that a floating one need not come ahead of; then the rest. -/
def wpCh (P : Program) (ops : Array Oper) (C : World → Prop) (K : Act → World → Prop) (tail : List Oper) : List Oper → Act → World → Prop
  | [], a, w => wpList P ops (onlyN K) tail a w
  | o :: r, a, w => wpList P ops (onlyN fun a' w' => C w' ∧ wpCh P ops C K tail r a' w') [o] a w

end float

structure FL (P : Program) (N : Nat) (ops : Array Oper) (C : World → Prop) (l : List Oper) (e : Env) (w : World) (Kf : Act → Prop) : Prop where
  go : ∀ a, Fit N e a → wpFl P ops C Kf l a
structure CL (P : Program) (N : Nat) (ops : Array Oper) (C : World → Prop) (tail l : List Oper) (e : Env) (w : World) (Q : Exit → Act → World → Prop) : Prop where
  go : ∀ a m, Fit N e a → wpCh P ops C (fun a w => Q .normal a w) tail l a (at' w m)

section rules
variable {P : Program} {N : Nat} {e : Env} {w : World} {Q : Exit → Act → World → Prop} {C : World → Prop} {ops l tail : List Oper} {Kf : Act → Prop} {T : Tab}
  {d : Nat} {tt : TypeId} {ps : String} {af : Array Edge} {g : Option (Nat × Bool)} {op : Op}

theorem FL.nil {opsA : Array Oper} {eO tO : List Oper} (h : CL P N opsA C tO eO e w Q) : FL P N opsA C [] e w (fun a => ∀ m, wpCh P opsA C (fun a w => Q .normal a w) tO eO a (at' w m)) := ⟨fun a hf m => h.go a m hf⟩
theorem FL.guardF (hg : gate ops e g = some false) (hd : Nat.blt d N = true) (k : FL P N ops.toArray C l ((d, undef) :: e) w Kf) : FL P N ops.toArray C (⟨some d, op, tt, ps, af, g⟩ :: l) e w Kf := by
  refine ⟨fun a hf => ?_⟩
  unfold wpFl
  rw [if_neg (by rw [gate_wanted hf (o := ⟨some d, op, tt, ps, af, g⟩) hg]; simp)]
  exact k.go _ (hf.put (by simpa [Nat.blt_eq] using hd) undef)
theorem FL.step {v : Value} (hg : gate ops e g = some true) (hd : Nat.blt d N = true) (h : YieldsIn P e C ⟨some d, op, tt, ps, af, g⟩ v) (k : FL P N ops.toArray C l ((d, v) :: e) w Kf) : FL P N ops.toArray C (⟨some d, op, tt, ps, af, g⟩ :: l) e w Kf := by
  refine ⟨fun a hf => ?_⟩
  unfold wpFl
  rw [if_pos (by rw [gate_wanted hf (o := ⟨some d, op, tt, ps, af, g⟩) hg])]
  exact ⟨v, fun w' hw' => h a.eval (fun x u hx => hf.eval hx) w' hw', k.go _ (hf.put (by simpa [Nat.blt_eq] using hd) v)⟩
theorem FL.split {b : Bool} (hd : get e d = some (.bool b)) (ht : b = true → FL P N ops.toArray C l ((d, .bool true) :: e) w Kf) (hf : b = false → FL P N ops.toArray C l ((d, .bool false) :: e) w Kf) : FL P N ops.toArray C l e w Kf := by
  refine ⟨fun a h => ?_⟩
  cases b
  · exact (hf rfl).go a (h.shadow hd)
  · exact (ht rfl).go a (h.shadow hd)

theorem CL.nil {opsA : Array Oper} (h : WL P N opsA tail e w (onlyN fun a w => Q .normal a w)) : CL P N opsA C tail [] e w Q := ⟨fun a m hf => h.go a m hf⟩
theorem CL.cons {opsA : Array Oper} {o : Oper} (h : WL P N opsA [o] e w (onlyN fun a' w' => C w' ∧ wpCh P opsA C (fun a w => Q .normal a w) tail l a' w')) : CL P N opsA C tail (o :: l) e w Q := ⟨fun a m hf => h.go a m hf⟩
theorem Z.early {opsA : Array Oper} (hC : ∀ m, C (at' w m)) (h : CL P N opsA C tail l e w Q) : Z N (onlyN fun a' w' => C w' ∧ wpCh P opsA C (fun a w => Q .normal a w) tail l a' w') .normal e w := ⟨fun a m hf => ⟨hC m, h.go a m hf⟩⟩
theorem Z.only (h : Z N Q .normal e w) : Z N (onlyN fun a w => Q .normal a w) .normal e w := ⟨fun a m hf => h.go a m hf⟩

/-- w' is w but for new blocks, and for one block. -/
abbrev But (w : World) (b : Option Nat) : World → Prop := fun w' => w.grownBy w' b
theorem But.at (w : World) (b : Option Nat) (m : Nat) : But w b (at' w m) := ⟨rfl, rfl, rfl, Nat.le_refl _, fun _ _ _ => rfl⟩
theorem But.cell {w w' : World} {b : Option Nat} (h : But w b w') {p : Addr} {v : Value} (hv : w.cell? p = some v) (hb : b ≠ some p.block) : w'.cell? p = some v := by
  rw [← hv]
  unfold World.cell?
  rw [h.block p.block (World.block_lt_of_cell? _ _ hv) (fun hh => hb hh.symm)]
theorem But.cells {w w' : World} {b : Option Nat} (h : But w b w') {k : Nat} (hb : b ≠ some k) : ∀ {off : Nat} {l : List Value}, Cells w k off l → Cells w' k off l
  | _, [], _ => trivial
  | _, _ :: _, ⟨h1, h2⟩ => ⟨h.cell h1 hb, But.cells h hb h2⟩
theorem But.ext {w w' : World} {b : Option Nat} (h : Ext w w') : But w b w' := ⟨h.os, h.tape, h.output, h.size, fun k hk _ => h.block k hk⟩
theorem But.trans {w w1 w2 : World} {b : Option Nat} (h : But w b w1) (k : But w1 b w2) : But w b w2 := ⟨k.os.trans h.os, k.tape.trans h.tape, k.output.trans h.output, Nat.le_trans h.size k.size, fun q hq hne => (k.block q (Nat.lt_of_lt_of_le hq h.size) hne).trans (h.block q hq hne)⟩
theorem FL.pev {v : Value} (hT : OkTab P T) (hg : gate ops e g = some true) (hd : Nat.blt d N = true) (h : pev T e op = some v) (k : FL P N ops.toArray C l ((d, v) :: e) w Kf) : FL P N ops.toArray C (⟨some d, op, tt, ps, af, g⟩ :: l) e w Kf :=
  FL.step hg hd (pev_yields hT h).in k
theorem FL.add {t ty : TypeId} {x y : Operand} {a b : Int} (hg : gate ops e g = some true) (hd : Nat.blt d N = true) (hx : ev e x = some (.int .i64 a)) (hy : ev e y = some (.int .i64 b)) (h : inI64 (a + b)) (k : FL P N ops.toArray C l ((d, .int .i64 (a + b)) :: e) w Kf) : FL P N ops.toArray C (⟨some d, .binOp .add t x y ty, tt, ps, af, g⟩ :: l) e w Kf :=
  FL.step hg hd (yadd hx hy h).in k
theorem FL.sub {t ty : TypeId} {x y : Operand} {a b : Int} (hg : gate ops e g = some true) (hd : Nat.blt d N = true) (hx : ev e x = some (.int .i64 a)) (hy : ev e y = some (.int .i64 b)) (h : inI64 (a - b)) (k : FL P N ops.toArray C l ((d, .int .i64 (a - b)) :: e) w Kf) : FL P N ops.toArray C (⟨some d, .binOp .sub t x y ty, tt, ps, af, g⟩ :: l) e w Kf :=
  FL.step hg hd (ysub hx hy h).in k
theorem FL.mul {t ty : TypeId} {x y : Operand} {a b : Int} (hg : gate ops e g = some true) (hd : Nat.blt d N = true) (hx : ev e x = some (.int .i64 a)) (hy : ev e y = some (.int .i64 b)) (h : inI64 (a * b)) (k : FL P N ops.toArray C l ((d, .int .i64 (a * b)) :: e) w Kf) : FL P N ops.toArray C (⟨some d, .binOp .mul t x y ty, tt, ps, af, g⟩ :: l) e w Kf :=
  FL.step hg hd (ymul hx hy h).in k
theorem FL.quo {t ty : TypeId} {x y : Operand} {a b : Int} (hg : gate ops e g = some true) (hd : Nat.blt d N = true) (hx : ev e x = some (.int .i64 a)) (hy : ev e y = some (.int .i64 b)) (h : 0 ≤ a ∧ a ≤ 9223372036854775807 ∧ 1 ≤ b) (k : FL P N ops.toArray C l ((d, .int .i64 (a / b)) :: e) w Kf) : FL P N ops.toArray C (⟨some d, .binOp .quo t x y ty, tt, ps, af, g⟩ :: l) e w Kf :=
  FL.step hg hd (yquo hx hy h).in k
theorem FL.rem {t ty : TypeId} {x y : Operand} {a b : Int} (hg : gate ops e g = some true) (hd : Nat.blt d N = true) (hx : ev e x = some (.int .i64 a)) (hy : ev e y = some (.int .i64 b)) (h : 0 ≤ a ∧ 1 ≤ b) (k : FL P N ops.toArray C l ((d, .int .i64 (a % b)) :: e) w Kf) : FL P N ops.toArray C (⟨some d, .binOp .rem t x y ty, tt, ps, af, g⟩ :: l) e w Kf :=
  FL.step hg hd (yrem hx hy h).in k
theorem FL.load {bk : Option Nat} {t : TypeId} {x : Operand} {p : Addr} {v : Value} {i : TI} (hT : OkTab P T) (hg : gate ops e g = some true) (hd : Nat.blt d N = true) (hx : ev e x = some (.pointer (some p))) (ht : tget T t = some i) (ha : isAggD i.desc = false) (hv : w.cell? p = some v) (hb : bk ≠ some p.block)
    (k : FL P N ops.toArray (But w bk) l ((d, v) :: e) w Kf) : FL P N ops.toArray (But w bk) (⟨some d, .load t x, tt, ps, af, g⟩ :: l) e w Kf := by
  refine FL.step hg hd ?_ k
  intro ρ hρ w' hw'
  have h1 := run_isAgg' (hT.at ht); rw [ha] at h1
  have h2 := But.cell hw' hv hb
  simp [execOp, hρ _ _ hx, Instr.loadAt, Instr.sureAddr, loadVar, h1, h2]
theorem FL.index {t : TypeId} {x y : Operand} {α : Type} {s : Nat} {enc : α → List Value} {a : Option Addr} {xs : List α} {n cap : Nat} {kk : IntKind} {i : Int} {ti ei : TI} {el : TypeId} {z : α} {w0 : World}
    (hT : OkTab P T) (hg : gate ops e g = some true) (hd : Nat.blt d N = true) (hx : ev e x = some (.slice a n cap)) (hy : ev e y = some (.int kk i)) (ht : tget T t = some ti) (htd : ti.desc = .slice el) (he : tget T el = some ei) (hs : ei.size = s)
    (R : Row s enc w0 a xs) (E : Ext w0 w) (hn : xs.length = n) (h0 : 0 ≤ i) (hz : xs[i.toNat]? = some z) (hne : enc z ≠ [])
    (k : ∀ b off, Cells w b off (enc z) → b < w0.heap.size → FL P N ops.toArray C l ((d, .pointer (some ⟨b, off, none⟩)) :: e) w Kf) : FL P N ops.toArray C (⟨some d, .indexAddr t x y, tt, ps, af, g⟩ :: l) e w Kf := by
  obtain ⟨b, off, ha, hc⟩ := R.elem _ _ hz
  have hlt : b < w0.heap.size := by
    cases hez : enc z with
    | nil => exact absurd hez hne
    | cons u r => rw [hez] at hc; exact World.block_lt_of_cell? _ _ hc.1
  refine FL.step (v := .pointer (some ⟨b, off + i.toNat * s, none⟩)) hg hd (Yields.in ?_) (k b (off + i.toNat * s) (hc.ext E) hlt)
  intro ρ hρ w'
  have hlt : i.toNat < xs.length := (List.getElem?_eq_some_iff.1 hz).1
  have h1 := run_underlying' (hT.at ht); rw [htd] at h1
  have h2 := run_sizeOf' (hT.at he); rw [hs] at h2
  have h3 : i < (n : Int) := by omega
  subst ha
  simp [execOp, hρ _ _ hx, hρ _ _ hy, Instr.indexAt, asIntOf, h1, h2, h0, h3, Addr_add_none]
theorem FL.indexO {t : TypeId} {α : Type} {s : Nat} {enc : α → List Value} {B : Nat} {ti ei : TI} {el : TypeId} {x y : Operand} {a : Option Addr} {xs : List α} {n cap : Nat} {kk : IntKind} {i : Int} {z : α} {wo : World} (hT : OkTab P T) (hg : gate ops e g = some true) (hd : Nat.blt d N = true)
    (hx : ev e x = some (.slice a n cap)) (hy : ev e y = some (.int kk i)) (ht : tget T t = some ti) (htd : ti.desc = .slice el) (he : tget T el = some ei) (hs : ei.size = s)
    (ho : Own s enc el B wo a cap xs) (E : Ext wo w) (hE : Enc s enc) (hn : xs.length = n) (h0 : 0 ≤ i) (hz : xs[i.toNat]? = some z)
    (k : ∀ gb, a = some ⟨gb, 0, none⟩ → Cells w gb (i.toNat * s) (enc z) → FL P N ops.toArray C l ((d, .pointer (some ⟨gb, i.toNat * s, none⟩)) :: e) w Kf) : FL P N ops.toArray C (⟨some d, .indexAddr t x y, tt, ps, af, g⟩ :: l) e w Kf := by
  obtain ⟨gb, ha, hc, hy'⟩ := yindexO (P := P) (dd := some d) (C := Same w) (t := t) (tt := tt) (x := x) (y := y) (ps := ps) (af := af) (g := g) hT hx hy ht htd he hs hE ho E hn h0 hz
  exact FL.step hg hd hy'.in (k gb ha hc)
end rules

section gsplit
variable {P : Program} {N : Nat} {e : Env} {w : World} {C : World → Prop} {ops l : List Oper} {Kf : Act → Prop} {o : Option Tmp} {op : Op} {tt : TypeId} {ps : String} {af : Array Edge} {j : Nat} {g : Bool} {d : Nat} {p : Prop} {b : Bool}
theorem FL.gD (hj : dstAt ops j = some d) (hd : get e d = some (.bool (dec p)))
    (ht : p → FL P N ops.toArray C (⟨o, op, tt, ps, af, some (j, g)⟩ :: l) ((d, .bool true) :: e) w Kf) (hf : ¬ p → FL P N ops.toArray C (⟨o, op, tt, ps, af, some (j, g)⟩ :: l) ((d, .bool false) :: e) w Kf) :
    FL P N ops.toArray C (⟨o, op, tt, ps, af, some (j, g)⟩ :: l) e w Kf := FL.split hd (fun h => ht (of_dec h)) (fun h => hf (of_dec_false h))
theorem FL.gN (hj : dstAt ops j = some d) (hd : get e d = some (.bool (!dec p)))
    (ht : ¬ p → FL P N ops.toArray C (⟨o, op, tt, ps, af, some (j, g)⟩ :: l) ((d, .bool true) :: e) w Kf) (hf : p → FL P N ops.toArray C (⟨o, op, tt, ps, af, some (j, g)⟩ :: l) ((d, .bool false) :: e) w Kf) :
    FL P N ops.toArray C (⟨o, op, tt, ps, af, some (j, g)⟩ :: l) e w Kf := FL.split hd (fun h => ht (of_dec_false (by simpa using h))) (fun h => hf (of_dec (by simpa using h)))
theorem FL.gT (hj : dstAt ops j = some d) (hd : get e d = some (.bool b)) (hb : b = true)
    (k : FL P N ops.toArray C (⟨o, op, tt, ps, af, some (j, g)⟩ :: l) ((d, .bool true) :: e) w Kf) : FL P N ops.toArray C (⟨o, op, tt, ps, af, some (j, g)⟩ :: l) e w Kf :=
  FL.split hd (fun h => k) (fun h => absurd (h.symm.trans hb) (by decide))
theorem FL.gF (hj : dstAt ops j = some d) (hd : get e d = some (.bool b)) (hb : b = false)
    (k : FL P N ops.toArray C (⟨o, op, tt, ps, af, some (j, g)⟩ :: l) ((d, .bool false) :: e) w Kf) : FL P N ops.toArray C (⟨o, op, tt, ps, af, some (j, g)⟩ :: l) e w Kf :=
  FL.split hd (fun h => absurd (h.symm.trans hb) (by decide)) (fun h => k)
end gsplit
end Go.Lt
namespace Go.Proofs.YtlcenenkloicjaaDoor
open Go.Lt
def T : Tab := [(2, ⟨.int .i64, 1, 8, .int .i64 0⟩),
  (3, ⟨.int .i64, 1, 8, .int .i64 0⟩),
  (4, ⟨.bool, 1, 1, .bool false⟩),
  (5, ⟨.int .u8, 1, 1, .int .u8 0⟩),
  (9, ⟨.string, 1, 16, .string ⟨#[]⟩⟩),
  (12, ⟨.int .u64, 1, 8, .int .u64 0⟩),
  (21, ⟨.int .i32, 1, 4, .int .i32 0⟩),
  (22, ⟨.slice 3, 1, 24, .slice none 0 0⟩),
  (24, ⟨.int .i64, 1, 8, .int .i64 0⟩),
  (32, ⟨.slice 52, 1, 24, .slice none 0 0⟩),
  (33, ⟨.slice 55, 1, 24, .slice none 0 0⟩),
  (34, ⟨.slice 41, 1, 24, .slice none 0 0⟩),
  (41, ⟨.slice 4, 1, 24, .slice none 0 0⟩),
  (46, ⟨.array 3 5, 3, 3, .agg #[.int .u8 0, .int .u8 0, .int .u8 0]⟩),
  (47, ⟨.slice 5, 1, 24, .slice none 0 0⟩),
  (51, ⟨.struct #[{ name := "A", type := 3, offset := 0, embedded := false, tag := "", pkgPath := "", byteOffset := 0 }, { name := "B", type := 3, offset := 1, embedded := false, tag := "", pkgPath := "", byteOffset := 8 }], 2, 16, .agg #[.int .i64 0, .int .i64 0]⟩),
  (52, ⟨.struct #[{ name := "A", type := 3, offset := 0, embedded := false, tag := "", pkgPath := "", byteOffset := 0 }, { name := "B", type := 3, offset := 1, embedded := false, tag := "", pkgPath := "", byteOffset := 8 }], 2, 16, .agg #[.int .i64 0, .int .i64 0]⟩),
  (54, ⟨.struct #[{ name := "Var", type := 3, offset := 0, embedded := false, tag := "", pkgPath := "", byteOffset := 0 }, { name := "Pin", type := 3, offset := 1, embedded := false, tag := "", pkgPath := "", byteOffset := 8 }, { name := "One", type := 4, offset := 2, embedded := false, tag := "", pkgPath := "", byteOffset := 16 }], 3, 24, .agg #[.int .i64 0, .int .i64 0, .bool false]⟩),
  (55, ⟨.struct #[{ name := "Var", type := 3, offset := 0, embedded := false, tag := "", pkgPath := "", byteOffset := 0 }, { name := "Pin", type := 3, offset := 1, embedded := false, tag := "", pkgPath := "", byteOffset := 8 }, { name := "One", type := 4, offset := 2, embedded := false, tag := "", pkgPath := "", byteOffset := 16 }], 3, 24, .agg #[.int .i64 0, .int .i64 0, .bool false]⟩),
  (58, ⟨.slice 22, 1, 24, .slice none 0 0⟩),
  (62, ⟨.int .u64, 1, 8, .int .u64 0⟩),
  (64, ⟨.slice 62, 1, 24, .slice none 0 0⟩),
  (76, ⟨.array 64 5, 64, 64, .agg #[.int .u8 0, .int .u8 0, .int .u8 0, .int .u8 0, .int .u8 0, .int .u8 0, .int .u8 0, .int .u8 0, .int .u8 0, .int .u8 0, .int .u8 0, .int .u8 0, .int .u8 0, .int .u8 0, .int .u8 0, .int .u8 0, .int .u8 0, .int .u8 0, .int .u8 0, .int .u8 0, .int .u8 0, .int .u8 0, .int .u8 0, .int .u8 0, .int .u8 0, .int .u8 0, .int .u8 0, .int .u8 0, .int .u8 0, .int .u8 0, .int .u8 0, .int .u8 0, .int .u8 0, .int .u8 0, .int .u8 0, .int .u8 0, .int .u8 0, .int .u8 0, .int .u8 0, .int .u8 0, .int .u8 0, .int .u8 0, .int .u8 0, .int .u8 0, .int .u8 0, .int .u8 0, .int .u8 0, .int .u8 0, .int .u8 0, .int .u8 0, .int .u8 0, .int .u8 0, .int .u8 0, .int .u8 0, .int .u8 0, .int .u8 0, .int .u8 0, .int .u8 0, .int .u8 0, .int .u8 0, .int .u8 0, .int .u8 0, .int .u8 0, .int .u8 0]⟩),
  (77, ⟨.int .u64, 1, 8, .int .u64 0⟩),
  (89, ⟨.int .u32, 1, 4, .int .u32 0⟩),
  (93, ⟨.pointer 5, 1, 8, .pointer none⟩)]
theorem tOk : OkTab Tryd.prog T := ⟨⟨by kernel_rfl, by kernel_rfl⟩, ⟨by kernel_rfl, by kernel_rfl⟩, ⟨by kernel_rfl, by kernel_rfl⟩, ⟨by kernel_rfl, by kernel_rfl⟩, ⟨by kernel_rfl, by kernel_rfl⟩, ⟨by kernel_rfl, by kernel_rfl⟩, ⟨by kernel_rfl, by kernel_rfl⟩, ⟨by kernel_rfl, by kernel_rfl⟩, ⟨by kernel_rfl, by kernel_rfl⟩, ⟨by kernel_rfl, by kernel_rfl⟩, ⟨by kernel_rfl, by kernel_rfl⟩, ⟨by kernel_rfl, by kernel_rfl⟩, ⟨by kernel_rfl, by kernel_rfl⟩, ⟨by kernel_rfl, by kernel_rfl⟩, ⟨by kernel_rfl, by kernel_rfl⟩, ⟨by kernel_rfl, by kernel_rfl⟩, ⟨by kernel_rfl, by kernel_rfl⟩, ⟨by kernel_rfl, by kernel_rfl⟩, ⟨by kernel_rfl, by kernel_rfl⟩, ⟨by kernel_rfl, by kernel_rfl⟩, ⟨by kernel_rfl, by kernel_rfl⟩, ⟨by kernel_rfl, by kernel_rfl⟩, ⟨by kernel_rfl, by kernel_rfl⟩, ⟨by kernel_rfl, by kernel_rfl⟩, ⟨by kernel_rfl, by kernel_rfl⟩, ⟨by kernel_rfl, by kernel_rfl⟩, trivial⟩

theorem tMix : Tryd.prog.follows .mixedOrders = true := by kernel_rfl
section
open Go
variable {N : Nat} {e : Env} {w : World} {Q : Exit → Act → World → Prop} {K : Act → World → Prop} {C : World → Prop} {Kf : Act → Prop} {ops l : List Oper} {d : Nat} {tt : TypeId} {op : Op} {v : Value} {ps : String} {af : Array Edge} {g : Option (Nat × Bool)}
/-- One operation that yields a value: how, is found among what is known. -/
theorem WL.au (hg : gate ops e g = some true := by exact rfl) (hd : Nat.blt d N = true := by exact rfl) (h : Lt.YieldsIn Tryd.prog e (Same w) ⟨some d, op, tt, ps, af, g⟩ v := by first | (apply Yields.in; apply pev_yields tOk; exact rfl) | (apply yload tOk; exact rfl; exact rfl; exact rfl; (first | assumption | (focus (apply Ext.cell; rotate_left; assumption; exact extA; done)))) | (apply Yields.in; apply yadd; exact rfl; exact rfl; omega) | (apply Yields.in; apply ysub; exact rfl; exact rfl; omega) | (apply Yields.in; apply ymul; exact rfl; exact rfl; omega) | (apply Yields.in; apply yquo; exact rfl; exact rfl; omega) | (apply Yields.in; apply yrem; exact rfl; exact rfl; omega) | (apply yloadAgg tOk; exact rfl; exact rfl; exact rfl; (case hv => (first | assumption | (focus (apply Cells.ext; rotate_left; assumption; exact extA; done)))); exact rfl)) (k : WL Tryd.prog N ops.toArray l ((d, v) :: e) w Q) : WL Tryd.prog N ops.toArray (⟨some d, op, tt, ps, af, g⟩ :: l) e w Q := Lt.WL.step hg hd h k
theorem QL.au [Cls C w] (hg : gate ops e g = some true := by exact rfl) (hd : Nat.blt d N = true := by exact rfl) (h : Lt.YieldsIn Tryd.prog e C ⟨some d, op, tt, ps, af, g⟩ v := by first | (apply Yields.in; apply pev_yields tOk; exact rfl) | (apply yload tOk; exact rfl; exact rfl; exact rfl; (first | assumption | (focus (apply Ext.cell; rotate_left; assumption; exact extA; done)))) | (apply Yields.in; apply yadd; exact rfl; exact rfl; omega) | (apply Yields.in; apply ysub; exact rfl; exact rfl; omega) | (apply Yields.in; apply ymul; exact rfl; exact rfl; omega) | (apply Yields.in; apply yquo; exact rfl; exact rfl; omega) | (apply Yields.in; apply yrem; exact rfl; exact rfl; omega) | (apply yloadAgg tOk; exact rfl; exact rfl; exact rfl; (case hv => (first | assumption | (focus (apply Cells.ext; rotate_left; assumption; exact extA; done)))); exact rfl)) (k : QL Tryd.prog N C ops.toArray l ((d, v) :: e) Q) : QL Tryd.prog N C ops.toArray (⟨some d, op, tt, ps, af, g⟩ :: l) e Q := Lt.QL.step hg hd h k
theorem SL.au (hg : gate ops e g = some true := by exact rfl) (hd : Nat.blt d N = true := by exact rfl) (h : Lt.YieldsIn Tryd.prog e (Same w) ⟨some d, op, tt, ps, af, g⟩ v := by first | (apply Yields.in; apply pev_yields tOk; exact rfl) | (apply yload tOk; exact rfl; exact rfl; exact rfl; (first | assumption | (focus (apply Ext.cell; rotate_left; assumption; exact extA; done)))) | (apply Yields.in; apply yadd; exact rfl; exact rfl; omega) | (apply Yields.in; apply ysub; exact rfl; exact rfl; omega) | (apply Yields.in; apply ymul; exact rfl; exact rfl; omega) | (apply Yields.in; apply yquo; exact rfl; exact rfl; omega) | (apply Yields.in; apply yrem; exact rfl; exact rfl; omega) | (apply yloadAgg tOk; exact rfl; exact rfl; exact rfl; (case hv => (first | assumption | (focus (apply Cells.ext; rotate_left; assumption; exact extA; done)))); exact rfl)) (k : SL Tryd.prog N ops.toArray l ((d, v) :: e) w K) : SL Tryd.prog N ops.toArray (⟨some d, op, tt, ps, af, g⟩ :: l) e w K := Lt.SL.step hg hd h k
theorem FL.au (hg : gate ops e g = some true := by exact rfl) (hd : Nat.blt d N = true := by exact rfl) (h : Lt.YieldsIn Tryd.prog e C ⟨some d, op, tt, ps, af, g⟩ v := by first | (apply Yields.in; apply pev_yields tOk; exact rfl) | (apply Yields.in; apply yadd; exact rfl; exact rfl; omega) | (apply Yields.in; apply ysub; exact rfl; exact rfl; omega) | (apply Yields.in; apply ymul; exact rfl; exact rfl; omega) | (apply Yields.in; apply yquo; exact rfl; exact rfl; omega) | (apply Yields.in; apply yrem; exact rfl; exact rfl; omega)) (k : FL Tryd.prog N ops.toArray C l ((d, v) :: e) w Kf) : FL Tryd.prog N ops.toArray C (⟨some d, op, tt, ps, af, g⟩ :: l) e w Kf := Lt.FL.step hg hd h k
end
end Go.Proofs.YtlcenenkloicjaaDoor
namespace Go.Proofs.YtlcenenkloicjaaDoor
open Go Go.Lt Go.RowKit
set_option linter.unusedVariables false
set_option linter.unusedSimpArgs false
set_option maxRecDepth 20000

def told3 (a : Int) : Prop := a = 0 ∨ a = 1
def and3 (a b : Int) : Int := if a = 0 ∨ b = 0 then 0 else if a = 1 ∧ b = 1 then 1 else 2
def not3 (a : Int) : Int := if a = 0 then 1 else if a = 1 then 0 else 2
def val3 (a : Int) : Int := if a = 0 ∨ a = 1 then a else 2
def joinV (a b : Int) : Int := if val3 a = 2 then val3 b else if val3 b = 2 ∨ a = b then val3 a else 2
def joinB (a b : Int) : Prop := val3 a = 2 ∨ val3 b = 2 ∨ a = b

theorem tri_told (a : Int) (w : World) : Still Tryd.prog 23 [.int .i64 a] w (.bool (dec (told3 a))) := by
  refine Spec.of _ Tryd.func23 rfl Tryd.ntmps23 (by kernel_rfl) rfl ?_
  repeat' (first
    | (show WL _ _ _ _ _ _ _; first | apply WL.nil | (refine WL.au (k := ?_)) | (apply WL.guardF; exact rfl; exact rfl) | (apply WL.gD; exact rfl; exact rfl; all_goals intro _))
    | (show Z _ _ _ _ _; apply Z.then_normal)
    | (show W _ _ _ _ _ _; first | apply W.seq | apply W.region | apply W.ret)
    | fail)
  all_goals (refine Z.body1 Tryd.results23 rfl fun m => ⟨?_, m, rfl⟩; (first | exact congrArg Value.bool (dec_true (by grind [told3])).symm | exact congrArg Value.bool (dec_false (by grind [told3])).symm | exact congrArg Value.bool (dec_true (by grind [told3])) | exact congrArg Value.bool (dec_false (by grind [told3])) | exact congrArg Value.bool (dec_congr (by grind [told3]))))
theorem tri_And (a b : Int) (w : World) : Still Tryd.prog 21 [.int .i64 a, .int .i64 b] w (.int .i64 (and3 a b)) := by
  refine Spec.of _ Tryd.func21 rfl Tryd.ntmps21 (by kernel_rfl) rfl ?_
  repeat' (first
    | (show WL _ _ _ _ _ _ _; first | apply WL.nil | (refine WL.au (k := ?_)) | (apply WL.guardF; exact rfl; exact rfl) | (apply WL.gD; exact rfl; exact rfl; all_goals intro _))
    | (show Z _ _ _ _ _; first | apply Z.then_normal | apply Z.block_normal | apply Z.then_ret | apply Z.block_ret)
    | (show W _ _ _ _ _ _; first | apply W.seq | apply W.region | apply W.block | apply W.skip | apply W.ret | (apply W.condT; exact rfl) | (apply W.condF; exact rfl) | (apply W.condD; exact rfl; all_goals intro _))
    | fail)
  all_goals (refine Z.body1 Tryd.results21 rfl fun m => ⟨?_, m, rfl⟩; congr 1; grind [and3])
theorem tri_Not (a : Int) (w : World) : Still Tryd.prog 22 [.int .i64 a] w (.int .i64 (not3 a)) := by
  refine Spec.of _ Tryd.func22 rfl Tryd.ntmps22 (by kernel_rfl) rfl ?_
  repeat' (first
    | ((show WL _ _ _ (⟨_, .call ⟨.value (.func 23), _, _⟩, _, _, _, _⟩ :: _) _ _ _); apply WL.callS; exact rfl; exact rfl; exact rfl; exact rfl; exact tri_told _ _)
    | (apply WL.sub; exact rfl; exact rfl; exact rfl; exact rfl; (simp only [told3] at *; omega))
    | (show WL _ _ _ _ _ _ _; first | apply WL.nil | (refine WL.au (k := ?_)))
    | (show Z _ _ _ _ _; first | apply Z.then_normal | apply Z.then_ret)
    | (show W _ _ _ _ _ _; first | apply W.seq | apply W.region | apply W.skip | apply W.ret | (apply W.condD; exact rfl; all_goals intro _))
    | fail)
  all_goals (refine Z.body1 Tryd.results22 rfl fun m => ⟨?_, m, rfl⟩; congr 1; grind [not3, told3])
theorem ref_value (a : Int) (w : World) : Still Tryd.prog 24 [.int .i64 a] w (.int .i64 (val3 a)) := by
  refine Spec.of _ Tryd.func24 rfl Tryd.ntmps24 (by kernel_rfl) rfl ?_
  repeat' (first
    | (show WL _ _ _ _ _ _ _; first | apply WL.nil | (refine WL.au (k := ?_)) | (apply WL.guardF; exact rfl; exact rfl) | (apply WL.gD; exact rfl; exact rfl; all_goals intro _))
    | (show Z _ _ _ _ _; first | apply Z.then_normal | apply Z.then_ret)
    | (show W _ _ _ _ _ _; first | apply W.seq | apply W.region | apply W.skip | apply W.ret | (apply W.condT; exact rfl) | (apply W.condD; exact rfl; all_goals intro _))
    | fail)
  all_goals (refine Z.body1 Tryd.results24 rfl fun m => ⟨?_, m, rfl⟩; congr 1; grind [val3])
theorem two_eq {a b : Int} {p q : Bool} (h : a = b) (h' : p = q) : Value.tuple #[.int .i64 a, .bool p] = .tuple #[.int .i64 b, .bool q] := by rw [h, h']
theorem tri_Join (a b : Int) (w : World) : Still Tryd.prog 20 [.int .i64 a, .int .i64 b] w (.tuple #[.int .i64 (joinV a b), .bool (dec (joinB a b))]) := by
  refine Spec.of _ Tryd.func20 rfl Tryd.ntmps20 (by kernel_rfl) rfl ?_
  repeat' (first
    | ((show WL _ _ _ (⟨_, .call ⟨.value (.func 23), _, _⟩, _, _, _, _⟩ :: _) _ _ _); apply WL.callS; exact rfl; exact rfl; exact rfl; exact rfl; exact tri_told _ _)
    | (show WL _ _ _ _ _ _ _; first | apply WL.nil | (refine WL.au (k := ?_)) | (apply WL.guardF; exact rfl; exact rfl) | (apply WL.gN; exact rfl; exact rfl; all_goals intro _))
    | (show Z _ _ _ _ _; first | apply Z.then_normal | apply Z.block_normal | apply Z.then_ret | apply Z.block_ret)
    | (show W _ _ _ _ _ _; first | apply W.seq | apply W.region | apply W.block | apply W.skip | apply W.ret | (apply W.condT; exact rfl) | (apply W.condF; exact rfl) | (apply W.condD; exact rfl; all_goals intro _) | (apply W.condN; exact rfl; all_goals intro _))
    | fail)
  all_goals (refine Z.body2 Tryd.results20 rfl rfl fun m => ⟨two_eq (by grind [joinV, told3, val3]) ?_, m, rfl⟩; first | exact (dec_true (by grind [joinB, told3, val3])).symm | exact (dec_false (by grind [joinB, told3, val3])).symm)
theorem lives3 (w : World) : Still Tryd.prog 6 [] w (.bool true) := by
  refine Spec.of _ Tryd.func6 rfl Tryd.ntmps6 (by kernel_rfl) rfl ?_
  repeat' (first
    | ((show WL _ _ _ (⟨_, .call ⟨.value (.func 20), _, _⟩, _, _, _, _⟩ :: _) _ _ _); apply WL.callS; exact rfl; exact rfl; exact rfl; exact rfl; exact tri_Join _ _ _)
    | ((show WL _ _ _ (⟨_, .call ⟨.value (.func 21), _, _⟩, _, _, _, _⟩ :: _) _ _ _); apply WL.callS; exact rfl; exact rfl; exact rfl; exact rfl; exact tri_And _ _ _)
    | ((show WL _ _ _ (⟨_, .call ⟨.value (.func 22), _, _⟩, _, _, _, _⟩ :: _) _ _ _); apply WL.callS; exact rfl; exact rfl; exact rfl; exact rfl; exact tri_Not _ _)
    | (apply WL.gT; exact rfl; exact rfl; (focus (exact dec_true (by simp [and3, not3, joinV, val3]); done)))
    | (show WL _ _ _ _ _ _ _; first | apply WL.nil | (refine WL.au (k := ?_)))
    | (show Z _ _ _ _ _; apply Z.then_normal)
    | (show W _ _ _ _ _ _; first | apply W.seq | apply W.region | apply W.ret)
    | fail)
  all_goals (refine Z.body1 Tryd.results6 rfl fun m => ⟨?_, m, rfl⟩; (first | exact congrArg Value.bool (dec_true (by simp [joinB, val3])).symm | exact congrArg Value.bool (dec_false (by simp [joinB, val3])).symm | exact congrArg Value.bool (dec_true (by simp [joinB, val3])) | exact congrArg Value.bool (dec_false (by simp [joinB, val3])) | exact congrArg Value.bool (dec_congr (by simp [joinB, val3]))))
end Go.Proofs.YtlcenenkloicjaaDoor
namespace Go.Lt
open Go.ChangeShapes Go.WideShapes Go.ChangeAt Go.RowKit Go.Deep
set_option linter.unusedVariables false

/-- What reads by this type takes the cells of an element. -/
def Reads (P : Program) (e : TypeId) {α : Type} (enc : α → List Value) (ok : World → α → Prop) : Prop :=
  ∀ {H : Type} (en : TypeId × Value → H) (w : World) (base : Nat) (spare : Nat → Bool) (held : Bool) (fuel : Nat) (cs : List Value) (x : DataW H × List MemPlace), DataW.trod en P w base spare held fuel e cs = some x → ∃ a : α, cs = enc a ∧ ok w a

theorem reads_int {P : Program} {e : TypeId} {k : IntKind} (ht : P.underlying e = some (.int k)) : Reads P e (fun n : Int => [.int k n]) (fun _ n => (Lit.int k n).wf = true) := by
  intro H en w base spare held fuel cs x h
  obtain ⟨n, h1, _, h2⟩ := DataW.trod_int ht h
  exact ⟨n, h1, h2⟩
/-- A slice of what reads. -/
theorem reads_row {P : Program} {α : Type} {s : Nat} {enc : α → List Value} {ok : World → α → Prop} {t e : TypeId} (hR : Reads P e enc ok) (hc : P.cellsOf e = s) (ht : P.underlying t = some (.slice e)) (hs : ∀ x, (enc x).length = s) (hpos : 0 < s) :
    Reads P t (fun r : Option Addr × Nat × List α => [.slice r.1 r.2.2.length r.2.1]) (fun w r => Row s enc w r.1 r.2.2 ∧ r.2.2.length ≤ r.2.1 ∧ r.2.1 ≤ maxLen ∧ (r.1 = none → r.2.1 = 0) ∧ ∀ x ∈ r.2.2, ok w x) := by
  intro H en w base spare held fuel cs xx hf
  rcases open_slice ht hf with ⟨hcs, _⟩ | ⟨a, len0, cap0, m, n, D, Pl, hcs, _, hl, hm, hmm, _, hx⟩
  · exact ⟨(none, 0, []), hcs, Row.nil _ _ _ _, Nat.le_refl _, Nat.zero_le _, fun _ => rfl, fun _ h => by cases h⟩
  · have hlm : len0 ≤ m := by rw [hmm]; split <;> omega
    have each : ∀ i, i < len0 → ∃ z : α, (∀ j u, (enc z)[j]? = some u → w.cell? ((a.add (i * s)).add j) = some u) ∧ ok w z := by
      intro i hi
      obtain ⟨cs', h1, h2⟩ := hx i (by omega)
      rw [hc] at h1
      obtain ⟨_, hlen, hcell⟩ := World.cells?_some h1
      obtain ⟨z, rfl, hz⟩ := hR en w base spare held n cs' _ h2
      exact ⟨z, fun j u hj => by rw [hcell j (by have := (List.getElem?_eq_some_iff.1 hj).1; omega), hj], hz⟩
    classical
    let Z : (i : Nat) → i < len0 → α := fun i hi => Classical.choose (each i hi)
    have hZ : ∀ i (hi : i < len0), (∀ j u, (enc (Z i hi))[j]? = some u → w.cell? ((a.add (i * s)).add j) = some u) ∧ ok w (Z i hi) := fun i hi => Classical.choose_spec (each i hi)
    let l : List α := List.ofFn (fun i : Fin len0 => Z i.1 i.2)
    have hll : l.length = len0 := by simp [l]
    refine ⟨(some a, cap0, l), by rw [hcs]; show _ = [Value.slice (some a) l.length cap0]; rw [hll], ?_, by show l.length ≤ cap0; omega, hm, fun h => (by cases h), ?_⟩
    · refine ⟨by simp only [maxLen] at hm; show l.length ≤ _; omega, fun i x hi => ?_⟩
      have hi : l[i]? = some x := hi
      have hlt : i < len0 := by have := (List.getElem?_eq_some_iff.1 hi).1; omega
      have hxz : x = Z i hlt := by
        have := (List.getElem?_eq_some_iff.1 hi).2
        simpa [l] using this.symm
      subst hxz
      obtain ⟨h1, _⟩ := hZ i hlt
      have hsp : a.spot = none := by
        have hlen := hs (Z i hlt)
        have h0 : 0 < (enc (Z i hlt)).length := by omega
        by_cases hi0 : i * s = 0
        · have := h1 0 (enc (Z i hlt))[0] (by simp [h0])
          simp only [hi0, Addr.add, if_true] at this
          exact World.cell?_spot this
        · have hz0 := hZ 0 (by omega)
          have hlen0 := hs (Z 0 (by omega))
          have h00 : 0 < (enc (Z 0 (by omega))).length := by omega
          have := hz0.1 0 (enc (Z 0 (by omega)))[0] (by simp [h00])
          simp only [Nat.zero_mul, Addr.add, if_true] at this
          exact World.cell?_spot this
      obtain ⟨b, off, spot⟩ := a
      simp only at hsp
      subst hsp
      refine ⟨b, off, rfl, cells_of fun j u hj => ?_⟩
      have := h1 j u hj
      rwa [Addr_add_none, Addr_add_none] at this
    · intro x hx'
      obtain ⟨i, hi⟩ := List.mem_iff_getElem.1 (show x ∈ l from hx')
      obtain ⟨hi1, hi2⟩ := hi
      have : x = Z i (by omega) := by rw [← hi2]; simp [l]
      rw [this]
      exact (hZ i (by omega)).2

theorem row_of {P : Program} {α : Type} {s : Nat} {enc : α → List Value} {ok : World → α → Prop} {t e : TypeId} (hR : Reads P e enc ok) (hc : P.cellsOf e = s) (ht : P.underlying t = some (.slice e)) (hs : ∀ x, (enc x).length = s) (hpos : 0 < s)
    {H : Type} {en : TypeId × Value → H} {w : World} {base : Nat} {spare : Nat → Bool} {held : Bool} {r : Reach} {b0 : Nat} {v : Value} {d : DataW H} {ps : List MemPlace} (hval : Value.okWide P w r b0 t v) (hd : DataW.Trod en P w base spare held t v d ps) :
    ∃ (a : Option Addr) (l : List α) (cap : Nat), v = .slice a l.length cap ∧ l.length ≤ cap ∧ cap ≤ maxLen ∧ (a = none → cap = 0) ∧ Row s enc w a l ∧ ∀ x ∈ l, ok w x := by
  obtain ⟨a0, len0, cap0, rfl⟩ := okWide_slice ht hval
  obtain ⟨fuel, hf⟩ := hd
  obtain ⟨⟨a, cap, l⟩, h1, h2, h3, h4, h5, h6⟩ := reads_row hR hc ht hs hpos en w base spare held fuel _ _ hf
  simp only [Value.cells, List.cons.injEq, Value.slice.injEq, and_true] at h1
  obtain ⟨rfl, rfl, rfl⟩ := h1
  exact ⟨a0, l, cap0, rfl, h3, h4, h5, h2, h6⟩

/-- A slice of slices. -/
abbrev RowV (α : Type) := Option Addr × Nat × List α
abbrev encRow {α : Type} : RowV α → List Value := fun r => [.slice r.1 r.2.2.length r.2.1]
/-- A law's walk, as the row's step wants it. -/
theorem Spec.law {P : Program} {f : FuncId} {args : List Value} {W : World} (h : Pure P f args W (.bool true)) : Calls P f args.toArray W fun e w' => e = .returned (.bool true) ∧ Below W.heap.size W w' :=
  (h.go W.drawn).mono fun _ _ ⟨v, hx, hv, hE⟩ => ⟨by rw [hx, hv], hE⟩
end Go.Lt
namespace Go.Lt
open Go.RowKit
set_option linter.unusedVariables false

structure OwnRR {α : Type} (s : Nat) (enc : α → List Value) (el elO B : Nat) (w : World) (a : Option Addr) (cap : Nat) (rs : List (RowV α)) : Prop where
  outer : Own 1 encRow elO B w a cap rs
  inner : ∀ (i : Nat) (r : RowV α), rs[i]? = some r → Own s enc el B w r.1 r.2.1 r.2.2
  apartO : ∀ (i : Nat) (r : RowV α), rs[i]? = some r → blk r.1 = none ∨ blk r.1 ≠ blk a
  apart : ∀ (i j : Nat) (r q : RowV α), rs[i]? = some r → rs[j]? = some q → i ≠ j → blk r.1 = none ∨ blk r.1 ≠ blk q.1

section
variable {α : Type} {s : Nat} {enc : α → List Value} {el elO B : Nat} {w w1 w2 : World} {a : Option Addr} {cap : Nat} {rs : List (RowV α)}
theorem OwnRR.ext (h : OwnRR s enc el elO B w a cap rs) (hx : Ext w w1) : OwnRR s enc el elO B w1 a cap rs :=
  ⟨h.outer.ext hx, fun i r hr => (h.inner i r hr).ext hx, h.apartO, h.apart⟩
/-- Another block is written. -/
theorem OwnRR.kept {B' : Nat} {c : Option Addr} (h : OwnRR s enc el elO B w a cap rs) (hU : Upd B' c w w1) (hO : blk a = none ∨ blk a ≠ blk c) (hI : ∀ (i : Nat) (r : RowV α), rs[i]? = some r → blk r.1 = none ∨ blk r.1 ≠ blk c) : OwnRR s enc el elO B w1 a cap rs :=
  ⟨hU.own h.outer hO, fun i r hr => hU.own (h.inner i r hr) (hI i r hr), h.apartO, h.apart⟩
/-- An element is appended to one of the rows, and the row is put back. -/
theorem OwnRR.step {i : Nat} {r : RowV α} {a' : Option Addr} {cap' : Nat} {l' : List α} (h : OwnRR s enc el elO B w a cap rs) (hr : rs[i]? = some r) (hU : Upd B r.1 w w1) (hF : blk a' = blk r.1 ∨ ∃ k, blk a' = some k ∧ w.heap.size ≤ k)
    (hO1 : Own s enc el B w1 a' cap' l') (hU2 : Upd B a w1 w2) (hO2 : Own 1 encRow elO B w2 a cap (rs.set i (a', cap', l'))) : OwnRR s enc el elO B w2 a cap (rs.set i (a', cap', l')) := by
  have hi := lt_of_get hr
  have hset : ∀ (j : Nat) (q : RowV α), (rs.set i (a', cap', l'))[j]? = some q → (j = i ∧ q = (a', cap', l')) ∨ (j ≠ i ∧ rs[j]? = some q) := fun j q hq => by
    rw [List.getElem?_set] at hq
    by_cases hj : i = j
    · subst hj
      rw [if_pos rfl, if_pos hi] at hq
      exact .inl ⟨rfl, (Option.some.inj hq).symm⟩
    · rw [if_neg hj] at hq
      exact .inr ⟨fun h => hj h.symm, hq⟩
  have hnewO : blk a' = none ∨ blk a' ≠ blk a := by
    rcases hF with hF | ⟨k, hk, hle⟩
    · rw [hF]; exact h.apartO i r hr
    · refine .inr fun he => ?_
      have := (h.outer.blk_lt k (he.symm.trans hk)).2
      omega
  have hnew : ∀ (j : Nat) (q : RowV α), rs[j]? = some q → j ≠ i → (blk q.1 = none ∨ blk q.1 ≠ blk a') := fun j q hq hj => by
    rcases hF with hF | ⟨k, hk, hle⟩
    · rw [hF]; exact h.apart j i q r hq hr hj
    · cases hb : blk q.1 with
      | none => exact .inl rfl
      | some b =>
        refine .inr fun he => ?_
        rw [hk] at he
        have h1 := ((h.inner j q hq).blk_lt b hb).2
        have h2 := Option.some.inj he
        omega
  refine ⟨hO2, fun j q hq => ?_, fun j q hq => ?_, fun j1 j2 q1 q2 h1 h2 hne => ?_⟩
  · rcases hset j q hq with ⟨rfl, rfl⟩ | ⟨hj, hq⟩
    · exact hU2.own hO1 hnewO
    · exact hU2.own (hU.own (h.inner j q hq) (h.apart j i q r hq hr hj)) (h.apartO j q hq)
  · rcases hset j q hq with ⟨rfl, rfl⟩ | ⟨hj, hq⟩
    · exact hnewO
    · exact h.apartO j q hq
  · rcases hset j1 q1 h1 with ⟨rfl, rfl⟩ | ⟨hj1, hq1⟩
    · rcases hset j2 q2 h2 with ⟨rfl, rfl⟩ | ⟨hj2, hq2⟩
      · exact absurd rfl hne
      · show blk a' = none ∨ blk a' ≠ blk q2.1
        cases hb : blk a' with
        | none => exact .inl rfl
        | some b =>
          refine .inr fun he => ?_
          rcases hnew j2 q2 hq2 hj2 with h3 | h3
          · rw [h3] at he; cases he
          · exact h3 (by rw [hb]; exact he.symm)
    · rcases hset j2 q2 h2 with ⟨rfl, rfl⟩ | ⟨hj2, hq2⟩
      · exact hnew j1 q1 hq1 hj1
      · exact h.apart j1 j2 q1 q2 hq1 hq2 hne
end

end Go.Lt
namespace Go.Lt
open Go.RowKit
set_option linter.unusedVariables false

theorem Own.keep {α : Type} {s : Nat} {enc : α → List Value} {el B : Nat} {w w' : World} {a : Option Addr} {cap : Nat} {l : List α} (h : Own s enc el B w a cap l) (hb : ∀ k, blk a = some k → w'.heap[k]? = w.heap[k]?) : Own s enc el B w' a cap l := by
  refine ⟨h.1, ?_⟩
  rcases h.2 with ⟨h1, h2⟩ | ⟨g', c', cur, h1, h2, h3, h4, h5, h6, h7⟩
  · exact .inl ⟨h1, h2⟩
  · have ha : blk a = some g' := by
      simp only [Value.slice.injEq] at h1
      rw [h1.1]; rfl
    exact .inr ⟨g', c', cur, h1, h2, by rw [hb g' ha]; exact h3, h4, h5, h6, h7⟩

structure Piece where
  b : Option Nat
  P : World → Prop
  keep : ∀ {w w' : World}, P w → (∀ k, b = some k → w'.heap[k]? = w.heap[k]?) → P w'

def prow {α : Type} (s : Nat) (enc : α → List Value) (el B : Nat) (a : Option Addr) (cap : Nat) (l : List α) : Piece := ⟨blk a, fun w => Own s enc el B w a cap l, fun h hb => h.keep hb⟩
def pcell (gb : Nat) (cs : Array Value) (t : Nat) : Piece := ⟨some gb, fun w => w.heap[gb]? = some (.cells cs t (0, 0)), fun h hb => by rw [hb gb rfl]; exact h⟩

structure Sep (B : Nat) (w : World) (ps : List Piece) : Prop where
  holds : ∀ (i : Nat) (p : Piece), ps[i]? = some p → p.P w ∧ ∀ k, p.b = some k → B ≤ k ∧ k < w.heap.size
  apart : ∀ (i j : Nat) (p q : Piece), ps[i]? = some p → ps[j]? = some q → i ≠ j → p.b = none ∨ p.b ≠ q.b

section
variable {B : Nat} {w w' : World} {ps : List Piece} {α : Type} {s : Nat} {enc : α → List Value} {el cap : Nat} {a : Option Addr} {l : List α}
theorem Sep.row {i : Nat} (hS : Sep B w ps) (h : ps[i]? = some (prow s enc el B a cap l)) : Own s enc el B w a cap l := (hS.holds i _ h).1
theorem Sep.cell {i gb : Nat} {cs : Array Value} {t : Nat} (hS : Sep B w ps) (h : ps[i]? = some (pcell gb cs t)) : w.heap[gb]? = some (.cells cs t (0, 0)) := (hS.holds i _ h).1
theorem Sep.lt {i : Nat} {p : Piece} {k : Nat} (hS : Sep B w ps) (h : ps[i]? = some p) (hk : p.b = some k) : B ≤ k ∧ k < w.heap.size := (hS.holds i _ h).2 k hk
theorem Sep.ext (hS : Sep B w ps) (hx : Ext w w') : Sep B w' ps :=
  ⟨fun i p h => ⟨p.keep (hS.holds i p h).1 (fun k hk => hx.block k ((hS.holds i p h).2 k hk).2), fun k hk => ⟨((hS.holds i p h).2 k hk).1, Nat.lt_of_lt_of_le ((hS.holds i p h).2 k hk).2 hx.size⟩⟩, hS.apart⟩
/-- A new piece. -/
theorem Sep.new {p : Piece} (hS : Sep B w ps) (hx : Ext w w') (hp : p.P w') (hb : ∀ k, p.b = some k → w.heap.size ≤ k ∧ k < w'.heap.size) (hB : B ≤ w.heap.size) : Sep B w' (p :: ps) := by
  have hS' := hS.ext hx
  refine ⟨fun i q h => ?_, fun i j q r h1 h2 hne => ?_⟩
  · cases i with
    | zero => cases h; exact ⟨hp, fun k hk => ⟨Nat.le_trans hB (hb k hk).1, (hb k hk).2⟩⟩
    | succ i => exact hS'.holds i q h
  · cases i with
    | zero =>
      cases h1
      cases j with
      | zero => exact absurd rfl hne
      | succ j =>
        cases hpb : p.b with
        | none => exact .inl rfl
        | some k =>
          refine .inr fun he => ?_
          have h3 := ((hS.holds j r h2).2 k he.symm).2
          have h4 := (hb k hpb).1
          omega
    | succ i =>
      cases j with
      | zero =>
        cases h2
        cases hqb : q.b with
        | none => exact .inl rfl
        | some k =>
          refine .inr fun he => ?_
          have h3 := ((hS.holds i q h1).2 k hqb).2
          have h4 := (hb k he.symm).1
          omega
      | succ j => exact hS.apart i j q r h1 h2 (by omega)
theorem Sep.newRow (hS : Sep B w ps) (hx : Ext w w') (hO : Own s enc el B w' a cap l) (hb : ∀ k, blk a = some k → w.heap.size ≤ k) (hB : B ≤ w.heap.size) : Sep B w' (prow s enc el B a cap l :: ps) :=
  hS.new hx hO (fun k hk => ⟨hb k hk, (hO.blk_lt k hk).2⟩) hB
theorem Sep.drop (hS : Sep B w ps) (n : Nat) : Sep B w (ps.drop n) :=
  ⟨fun i p h => hS.holds (n + i) p (by rw [List.getElem?_drop] at h; exact h), fun i j p q h1 h2 hne => hS.apart (n + i) (n + j) p q (by rw [List.getElem?_drop] at h1; exact h1) (by rw [List.getElem?_drop] at h2; exact h2) (by omega)⟩
end
end Go.Lt
namespace Go.Lt
open Go.RowKit
set_option linter.unusedVariables false
set_option linter.unusedSimpArgs false

/-- The map at r holds these, in the order in which they came. -/
def MapIs {κ ν : Type} (kv : κ → Value) (vv : ν → Value) (w : World) (r : Nat) (L : List (κ × ν)) : Prop :=
  ∃ es clock, w.heap[r]? = some (.map es clock) ∧ es.toList.map (fun e => (e.key, e.val)) = L.map (fun x => (kv x.1, vv x.2))
theorem MapIs.keep {κ ν : Type} {kv : κ → Value} {vv : ν → Value} {w w' : World} {r : Nat} {L : List (κ × ν)} (h : MapIs kv vv w r L) (hr : w'.heap[r]? = w.heap[r]?) : MapIs kv vv w' r L := by
  obtain ⟨es, clock, h1, h2⟩ := h
  exact ⟨es, clock, by rw [hr]; exact h1, h2⟩
theorem MapIs.lt {κ ν : Type} {kv : κ → Value} {vv : ν → Value} {w : World} {r : Nat} {L : List (κ × ν)} (h : MapIs kv vv w r L) : r < w.heap.size := by
  obtain ⟨es, clock, h1, _⟩ := h; exact heap_lt h1
theorem MapIs.ext {κ ν : Type} {kv : κ → Value} {vv : ν → Value} {w w' : World} {r : Nat} {L : List (κ × ν)} (h : MapIs kv vv w r L) (hx : Ext w w') : MapIs kv vv w' r L := h.keep (hx.block r h.lt)
def pmap {κ ν : Type} (kv : κ → Value) (vv : ν → Value) (r : Nat) (L : List (κ × ν)) : Piece := ⟨some r, fun w => MapIs kv vv w r L, fun h hb => h.keep (hb r rfl)⟩

section
variable {P : Program} {κ ν : Type} {kt : TypeId} {kv : κ → Value} {vv : ν → Value}
end

section
variable {P : Program} {T : Tab}
end

section rules
variable {P : Program} {N : Nat} {e : Env} {w : World} {Q : Exit → Act → World → Prop} {ops : List Oper} {l : List Oper} {T : Tab} {C : World → Prop} {Kf : Act → Prop}
  {d : Nat} {tt t : TypeId} {ps : String} {af : Array Edge} {g : Option (Nat × Bool)} {x y z : Operand} {ti ei : TI} {κ ν : Type} {kt et : TypeId} {kv : κ → Value} {vv : ν → Value} {L : List (κ × ν)} {a : κ} {v : ν} {r : Nat}

end rules
end Go.Lt
namespace Go.Lt
open Go.RowKit
set_option linter.unusedVariables false
set_option linter.unusedSimpArgs false

section
variable {P : Program} {T : Tab} {e : Env} {dd : Option Tmp} {tt ty t el : TypeId} {x y : Operand} {ps : String} {af : Array Edge} {g : Option (Nat × Bool)} {i : TI} {p : Option Addr} {a : Addr}
end

section rules
variable {P : Program} {N : Nat} {e : Env} {w : World} {Q : Exit → Act → World → Prop} {ops : List Oper} {l : List Oper} {T : Tab} {C : World → Prop} {Kf : Act → Prop}
  {d : Nat} {tt ty t el : TypeId} {ps : String} {af : Array Edge} {g : Option (Nat × Bool)} {x y : Operand} {i : TI} {p : Option Addr} {a : Addr}
end rules
theorem Sep.map {B : Nat} {w : World} {ps : List Piece} {i r : Nat} {κ ν : Type} {kv : κ → Value} {vv : ν → Value} {L : List (κ × ν)} (hS : Sep B w ps) (h : ps[i]? = some (pmap kv vv r L)) : MapIs kv vv w r L := (hS.holds i _ h).1
end Go.Lt
namespace Go.Lt
open Go.RowKit
set_option linter.unusedVariables false
set_option linter.unusedSimpArgs false

inductive Strat where
  | done : Strat
  | fl : Bool → Nat → Strat → Strat
  | br : Nat → Strat → Strat → Strat
  | stop : Strat

section tree
variable {P : Program} {ops : Array Oper} {C : World → Prop} {early : Nat → Bool} {K : Act → World → Prop}

/-- The step yields v, and leaves the world but for draws. -/
def StillAt (P : Program) (s : Sem Next) (w : World) (v : Value) : Prop :=
  s.run P w = .ok (.value v) w ∨ ∃ f args, s.run P w = .ok (.enter f args) w ∧ Calls P f args w (fun x w' => x = .returned v ∧ ∃ m, w' = at' w m)

def SYields (P : Program) (ops : Array Oper) (C : World → Prop) (o : Oper) (v : Value) (a : Act) : Prop :=
  (Region.wanted o (yielded ops a.tmps) = true ∧ ∀ w, C w → StillAt P (execOp a.eval o) w v) ∨ (Region.wanted o (yielded ops a.tmps) = false ∧ v = undef)

def wpS (P : Program) (ops : Array Oper) (C : World → Prop) (early : Nat → Bool) (K : Act → World → Prop) : Strat → Act → World → Prop
  | .done, a, w => ∀ m, K a (at' w m)
  | .fl b i k, a, w => ∃ o, ops[i]? = some o ∧ ∃ v, SYields P ops (fun w => b = true ∨ C w) o v a ∧ (∀ m, b = true ∨ C (at' w m)) ∧ wpS P ops C early K k (a.put o.dst v) w
  | .br i k more, a, w => (∃ o, ops[i]? = some o ∧ ∀ m, wpList P ops (onlyN fun a' w' => (early i = true → ∀ m, C (at' w' m)) ∧ wpS P ops C early K k a' w') [o] a (at' w m)) ∧ wpS P ops C early K more a w
  | .stop, _, _ => True

end tree

structure SG (P : Program) (N : Nat) (l : List Oper) (C : World → Prop) (early : Nat → Bool) (s : Strat) (e : Env) (w : World) (Q : Exit → Act → World → Prop) : Prop where
  go : ∀ a, Fit N e a → wpS P l.toArray C early (fun a w => Q .normal a w) s a w

def nthO : List Oper → Nat → Option Oper
  | [], _ => none
  | o :: _, 0 => some o
  | _ :: r, i + 1 => nthO r i
theorem nthO_eq : ∀ {l : List Oper} {i : Nat} {o : Oper}, nthO l i = some o → l.toArray[i]? = some o
  | [], _, _, h => by cases h
  | _ :: _, 0, _, h => by simpa [nthO] using h
  | _ :: r, i + 1, o, h => by have := nthO_eq (l := r) (i := i) h; simpa using this

section rules
variable {P : Program} {N : Nat} {e : Env} {w : World} {Q : Exit → Act → World → Prop} {C : World → Prop} {l : List Oper} {early : Nat → Bool} {s k more : Strat} {o : Oper} {i : Nat}

theorem SG.done (h : Z N Q .normal e w) : SG P N l C early .done e w Q := ⟨fun a hf m => h.go a m hf⟩
theorem SG.stop : SG P N l C early .stop e w Q := ⟨fun a hf => trivial⟩
theorem SG.br (ho : nthO l i = some o) (h : WL P N l.toArray [o] e w (onlyN fun a' w' => (early i = true → ∀ m, C (at' w' m)) ∧ wpS P l.toArray C early (fun a w => Q .normal a w) k a' w')) (hm : SG P N l C early more e w Q) : SG P N l C early (.br i k more) e w Q :=
  ⟨fun a hf => ⟨⟨o, nthO_eq ho, fun m => h.go a m hf⟩, hm.go a hf⟩⟩
end rules

section more
variable {P : Program} {T : Tab} {N : Nat} {e : Env} {w w0 : World} {Q : Exit → Act → World → Prop} {C : World → Prop} {ops l : List Oper} {Kf : Act → Prop} {K : Act → World → Prop}
  {d : Nat} {tt t ty : TypeId} {ps : String} {af : Array Edge} {g : Option (Nat × Bool)} {x y : Operand} {a b : Int}
end more
end Go.Lt
namespace Go.Lt
open Go.RowKit
set_option linter.unusedVariables false
set_option linter.unusedSimpArgs false
section
variable {P : Program} {T : Tab} {e : Env} {dd : Option Tmp} {tt ty t el : TypeId} {x y : Operand} {ps : String} {af : Array Edge} {g : Option (Nat × Bool)} {i : TI} {a : Option Addr} {n c : Nat}
variable {N d : Nat} {w : World} {Q : Exit → Act → World → Prop} {C : World → Prop} {ops l : List Oper} {Kf : Act → Prop}
end
section ext
variable {P : Program} {T : Tab} {N d : Nat} {e : Env} {w w0 : World} {C : World → Prop} {ops l : List Oper} {Kf : Act → Prop} {tt t ty : TypeId} {ps : String} {af : Array Edge} {g : Option (Nat × Bool)} {x y : Operand}
end ext
section remk
variable {P : Program} {N d : Nat} {e : Env} {w : World} {Q : Exit → Act → World → Prop} {ops l : List Oper} {tt t ty : TypeId} {ps : String} {af : Array Edge} {g : Option (Nat × Bool)} {x y : Operand} {a b : Int} {kk : IntKind}
end remk
section cut
variable {P : Program} {N : Nat} {e : Env} {w : World} {Q : Exit → Act → World → Prop}
end cut
theorem Sep.pick {B : Nat} {w : World} {ps qs : List Piece} (f : Nat → Nat) (hS : Sep B w ps) (hf : ∀ i p, qs[i]? = some p → ps[f i]? = some p) (hi : ∀ i j, i < qs.length → j < qs.length → i ≠ j → f i ≠ f j) : Sep B w qs := by
  refine ⟨fun i p h => hS.holds _ _ (hf i p h), fun i j p q h1 h2 hne => hS.apart _ _ _ _ (hf i p h1) (hf j q h2) (hi i j ?_ ?_ hne)⟩
  · exact (List.getElem?_eq_some_iff.1 h1).1
  · exact (List.getElem?_eq_some_iff.1 h2).1
end Go.Lt
namespace Go.Lt
open Go.RowKit
set_option linter.unusedVariables false
set_option linter.unusedSimpArgs false
section
variable {P : Program} {T : Tab} {e : Env} {dd : Option Tmp} {tt ty t : TypeId} {x y : Operand} {ps : String} {af : Array Edge} {g : Option (Nat × Bool)} {i : TI} {u v : ByteArray}
theorem loop_eq (u : ByteArray) : ∀ (n i : Nat) (r : List UInt8), u.size - i = n → ByteArray.toList.loop u i r = r.reverse ++ u.data.toList.drop i := by
  intro n
  induction n with
  | zero =>
    intro i r h
    unfold ByteArray.toList.loop
    rw [if_neg (by omega), List.drop_eq_nil_of_le (by show u.data.size ≤ i; have : u.size = u.data.size := rfl; omega), List.append_nil]
  | succ n ih =>
    intro i r h
    unfold ByteArray.toList.loop
    have hi : i < u.data.toList.length := by show i < u.data.size; have : u.size = u.data.size := rfl; omega
    rw [if_pos (by omega), ih (i + 1) _ (by omega), List.reverse_cons, List.append_assoc, List.drop_eq_getElem_cons hi]
    congr 1
    rw [List.singleton_append]
    congr 1
    show u.data[i]! = u.data.toList[i]
    have hi2 : i < u.data.size := hi
    rw [getElem!_pos u.data i hi2]; rfl
theorem bytesL (u : ByteArray) : u.toList = u.data.toList := by
  unfold ByteArray.toList
  rw [loop_eq u u.size 0 [] rfl]; rfl
theorem bytesL_inj {u v : ByteArray} (h : u.toList = v.toList) : u = v := by
  rw [bytesL, bytesL] at h
  exact ByteArray.ext (Array.ext' h)
theorem yeqStr (hT : OkTab P T) (hx : ev e x = some (.string u)) (hy : ev e y = some (.string v)) (ht : tget T t = some i) (hd : i.desc = .string) : Yields P e ⟨dd, .binOp .eql t x y ty, tt, ps, af, g⟩ (.bool (dec (u = v))) := by
  intro ρ hρ w
  have h1 : (eqGuard .eql t x y (.string u) (.string v)).run P w = .ok () w := by simp [eqGuard]
  have h2 : (binOp .eql t (.string u) (.string v)).run P w = .ok (.bool (dec (u = v))) w := by
    by_cases h : u = v
    · subst h; rw [dec_true rfl]; simp [binOp, Op.stringOp]
    · rw [dec_false h]; have hh : ¬ u.toList = v.toList := fun q => h (bytesL_inj q); simp [binOp, Op.stringOp, hh]
  simp [execOp, hρ _ _ hx, hρ _ _ hy, h1, h2]
variable {N d : Nat} {w : World} {Q : Exit → Act → World → Prop} {C : World → Prop} {ops l : List Oper}
theorem WL.eqStr (hT : OkTab P T) (hg : gate ops e g = some true) (hd : Nat.blt d N = true) (hx : ev e x = some (.string u)) (hy : ev e y = some (.string v)) (ht : tget T t = some i) (htd : i.desc = .string) (k : WL P N ops.toArray l ((d, .bool (dec (u = v))) :: e) w Q) : WL P N ops.toArray (⟨some d, .binOp .eql t x y ty, tt, ps, af, g⟩ :: l) e w Q := WL.step hg hd (yeqStr hT hx hy ht htd).in k
theorem QL.eqStr (hT : OkTab P T) (hg : gate ops e g = some true) (hd : Nat.blt d N = true) (hx : ev e x = some (.string u)) (hy : ev e y = some (.string v)) (ht : tget T t = some i) (htd : i.desc = .string) (k : QL P N C ops.toArray l ((d, .bool (dec (u = v))) :: e) Q) : QL P N C ops.toArray (⟨some d, .binOp .eql t x y ty, tt, ps, af, g⟩ :: l) e Q := QL.step hg hd (yeqStr hT hx hy ht htd).in k
end
end Go.Lt
namespace Go.Lt
open Go.RowKit
set_option linter.unusedVariables false
set_option linter.unusedSimpArgs false
abbrev enc8 : UInt8 → List Value := fun c => [.int .u8 (c.toNat : Int)]
/-- The bytes of a string. -/
abbrev byt (u : ByteArray) : List UInt8 := u.data.toList
theorem byt_len (u : ByteArray) : (byt u).length = u.size := rfl
theorem byt_inj {u v : ByteArray} (h : byt u = byt v) : u = v := ByteArray.ext (Array.ext' h)
theorem byt_app (u v : ByteArray) : byt (u ++ v) = byt u ++ byt v := by
  have := ByteArray.mk_append_mk (byt u) (byt v)
  have e1 : (⟨(byt u).toArray⟩ : ByteArray) = u := by apply ByteArray.ext; simp [byt]
  have e2 : (⟨(byt v).toArray⟩ : ByteArray) = v := by apply ByteArray.ext; simp [byt]
  rw [e1, e2] at this
  rw [this]
section
variable {P : Program} {T : Tab} {e : Env} {dd : Option Tmp} {tt ty t t2 el : TypeId} {x y z : Operand} {ps : String} {af : Array Edge} {g : Option (Nat × Bool)} {i i2 ei : TI} {u v : ByteArray} {k k2 : IntKind} {a b : Int} {c : UInt8} {w w0 : World} {ad : Option Addr} {n cap : Nat} {l : List UInt8}
theorem yindexS (hT : OkTab P T) (hx : ev e x = some (.string u)) (hy : ev e y = some (.int k a)) (ht : tget T t = some i) (hd : i.desc = .string) (h0 : 0 ≤ a) (hz : (byt u)[a.toNat]? = some c) : Yields P e ⟨dd, .index t x y, tt, ps, af, g⟩ (.int .u8 (c.toNat : Int)) := by
  intro ρ hρ w
  have h1 := (hT.at ht).1; rw [hd] at h1
  have h2 := run_index_string (P := P) w t u k a h1
  obtain ⟨h3, h4⟩ := List.getElem?_eq_some_iff.1 hz
  have h5 : a < u.size := by have : (byt u).length = u.size := rfl; omega
  rw [dif_pos ⟨h0, h5⟩] at h2
  have h6 : u[a.toNat]'(by omega) = c := by rw [← h4]; rfl
  rw [h6] at h2
  simp [execOp, hρ _ _ hx, hρ _ _ hy, h2]
theorem ysliceS (hT : OkTab P T) (hx : ev e x = some (.string u)) (hy : ev e y = some (.int k a)) (hz : ev e z = some (.int k2 b)) (ht : tget T t = some i) (hd : i.desc = .string) (h0 : 0 ≤ a ∧ a ≤ b) (h1 : b ≤ u.size) : Yields P e ⟨dd, .slice t x (some y) (some z) none, tt, ps, af, g⟩ (.string (u.extract a.toNat b.toNat)) := by
  intro ρ hρ w
  have e1 := run_underlying' (hT.at ht); rw [hd] at e1
  have e3 : 0 ≤ b := by omega
  simp [execOp, hρ _ _ hx, hρ _ _ hy, hρ _ _ hz, Instr.sliceAt, Instr.slice, e1, Instr.sliceBounds, Instr.sliceBound, asIntOf, h0.1, e3, h1]
  omega
theorem yaddS (hx : ev e x = some (.string u)) (hy : ev e y = some (.string v)) (h : u.size + v.size ≤ 9223372036854775807) : Yields P e ⟨dd, .binOp .add t x y ty, tt, ps, af, g⟩ (.string (u ++ v)) := by
  intro ρ hρ w
  have h1 : (eqGuard .add t x y (.string u) (.string v)).run P w = .ok () w := by simp [eqGuard]
  have h2 : (binOp .add t (.string u) (.string v)).run P w = .ok (.string (u ++ v)) w := by
    rw [binOp_string_add]; exact run_string_add_sum w u v h
  simp [execOp, hρ _ _ hx, hρ _ _ hy, h1, h2]
theorem yconvS (hT : OkTab P T) {C : World → Prop} [Cls C w] (hx : ev e x = some (.slice ad n cap)) (ht : tget T t = some i) (hd : i.desc = .slice el) (he : tget T el = some ei) (hed : ei.desc = .int .u8) (h2 : tget T t2 = some i2) (hd2 : i2.desc = .string)
    (R : Row 1 enc8 w0 ad l) (E : Ext w0 w) (hn : l.length = n) : YieldsIn P e C ⟨dd, .convert t t2 x, tt, ps, af, g⟩ (.string ⟨l.toArray⟩) := by
  intro ρ hρ w' hw'
  have q1 := (hT.at ht).1; rw [hd] at q1
  have q2 := (hT.at he).1; rw [hed] at q2
  have q3 := (hT.at h2).1; rw [hd2] at q3
  subst hn
  cases l with
  | nil =>
    have hf : (Conv.bytesToString (.slice ad ([] : List UInt8).length cap)).run P w' = .ok (.string ⟨#[]⟩) w' := by
      cases ad with
      | none => rfl
      | some p =>
        have := run_bytesToString (P := P) w' p 0 cap [] (by simp [loadCells, loadCellsFrom])
        exact this
    have := run_convert_bytes_string (P := P) w' t t2 el ad 0 cap q1 q2 q3
    have hf' : (Conv.bytesToString (.slice ad 0 cap)).run P w' = .ok (.string ⟨#[]⟩) w' := hf
    simp [execOp, hρ _ _ hx, this, hf']
  | cons c0 r =>
    obtain ⟨b0, off, rfl, _⟩ := R.elem 0 c0 rfl
    have h5 := run_convert_bytes_back (P := P) w' t t2 el ⟨b0, off, none⟩ cap (c0 :: r) q1 q2 q3 (fun j hj => by
      obtain ⟨b1, o1, e1, hc⟩ := R.elem j _ (List.getElem?_eq_getElem hj)
      cases e1
      have := ((hc.ext E).ext (Cls.keeps (C := C) w' hw')).1
      rw [Addr_add_none]
      simpa using this)
    have h6 : (convert t t2 (.slice (some ⟨b0, off, none⟩) (r.length + 1) cap)).run P w' = .ok (.string ⟨(c0 :: r).toArray⟩) w' := h5
    simp [execOp, hρ _ _ hx, h6]
variable {N d : Nat} {Q : Exit → Act → World → Prop} {C : World → Prop} {ops L : List Oper} {Kf : Act → Prop}
theorem WL.indexS (hT : OkTab P T) (hg : gate ops e g = some true) (hd : Nat.blt d N = true) (hx : ev e x = some (.string u)) (hy : ev e y = some (.int k a)) (ht : tget T t = some i) (hd1 : i.desc = .string) (h0 : 0 ≤ a) (hz : (byt u)[a.toNat]? = some c) (kk : WL P N ops.toArray L ((d, .int .u8 (c.toNat : Int)) :: e) w Q) : WL P N ops.toArray (⟨some d, .index t x y, tt, ps, af, g⟩ :: L) e w Q := WL.step hg hd (yindexS hT hx hy ht hd1 h0 hz).in kk
theorem QL.indexS (hT : OkTab P T) (hg : gate ops e g = some true) (hd : Nat.blt d N = true) (hx : ev e x = some (.string u)) (hy : ev e y = some (.int k a)) (ht : tget T t = some i) (hd1 : i.desc = .string) (h0 : 0 ≤ a) (hz : (byt u)[a.toNat]? = some c) (kk : QL P N C ops.toArray L ((d, .int .u8 (c.toNat : Int)) :: e) Q) : QL P N C ops.toArray (⟨some d, .index t x y, tt, ps, af, g⟩ :: L) e Q := QL.step hg hd (yindexS hT hx hy ht hd1 h0 hz).in kk
theorem WL.sliceS (hT : OkTab P T) (hg : gate ops e g = some true) (hd : Nat.blt d N = true) (hx : ev e x = some (.string u)) (hy : ev e y = some (.int k a)) (hz : ev e z = some (.int k2 b)) (ht : tget T t = some i) (hd1 : i.desc = .string) (h0 : 0 ≤ a ∧ a ≤ b) (h1 : b ≤ u.size) (kk : WL P N ops.toArray L ((d, .string (u.extract a.toNat b.toNat)) :: e) w Q) : WL P N ops.toArray (⟨some d, .slice t x (some y) (some z) none, tt, ps, af, g⟩ :: L) e w Q := WL.step hg hd (ysliceS hT hx hy hz ht hd1 h0 h1).in kk
theorem QL.sliceS (hT : OkTab P T) (hg : gate ops e g = some true) (hd : Nat.blt d N = true) (hx : ev e x = some (.string u)) (hy : ev e y = some (.int k a)) (hz : ev e z = some (.int k2 b)) (ht : tget T t = some i) (hd1 : i.desc = .string) (h0 : 0 ≤ a ∧ a ≤ b) (h1 : b ≤ u.size) (kk : QL P N C ops.toArray L ((d, .string (u.extract a.toNat b.toNat)) :: e) Q) : QL P N C ops.toArray (⟨some d, .slice t x (some y) (some z) none, tt, ps, af, g⟩ :: L) e Q := QL.step hg hd (ysliceS hT hx hy hz ht hd1 h0 h1).in kk
theorem WL.addS (hg : gate ops e g = some true) (hd : Nat.blt d N = true) (hx : ev e x = some (.string u)) (hy : ev e y = some (.string v)) (h : u.size + v.size ≤ 9223372036854775807) (kk : WL P N ops.toArray L ((d, .string (u ++ v)) :: e) w Q) : WL P N ops.toArray (⟨some d, .binOp .add t x y ty, tt, ps, af, g⟩ :: L) e w Q := WL.step hg hd (yaddS hx hy h).in kk
theorem QL.addS (hg : gate ops e g = some true) (hd : Nat.blt d N = true) (hx : ev e x = some (.string u)) (hy : ev e y = some (.string v)) (h : u.size + v.size ≤ 9223372036854775807) (kk : QL P N C ops.toArray L ((d, .string (u ++ v)) :: e) Q) : QL P N C ops.toArray (⟨some d, .binOp .add t x y ty, tt, ps, af, g⟩ :: L) e Q := QL.step hg hd (yaddS hx hy h).in kk
theorem WL.convS (hT : OkTab P T) (hg : gate ops e g = some true) (hd : Nat.blt d N = true) (hx : ev e x = some (.slice ad n cap)) (ht : tget T t = some i) (hd1 : i.desc = .slice el) (he : tget T el = some ei) (hed : ei.desc = .int .u8) (h2 : tget T t2 = some i2) (hd2 : i2.desc = .string)
    (R : Row 1 enc8 w0 ad l) (E : Ext w0 w) (hn : l.length = n) (kk : WL P N ops.toArray L ((d, .string ⟨l.toArray⟩) :: e) w Q) : WL P N ops.toArray (⟨some d, .convert t t2 x, tt, ps, af, g⟩ :: L) e w Q := WL.step hg hd (yconvS (C := Same w) (w := w) hT hx ht hd1 he hed h2 hd2 R E hn) kk
theorem QL.convS [Cls C w] (hT : OkTab P T) (hg : gate ops e g = some true) (hd : Nat.blt d N = true) (hx : ev e x = some (.slice ad n cap)) (ht : tget T t = some i) (hd1 : i.desc = .slice el) (he : tget T el = some ei) (hed : ei.desc = .int .u8) (h2 : tget T t2 = some i2) (hd2 : i2.desc = .string)
    (R : Row 1 enc8 w0 ad l) (E : Ext w0 w) (hn : l.length = n) (kk : QL P N C ops.toArray L ((d, .string ⟨l.toArray⟩) :: e) Q) : QL P N C ops.toArray (⟨some d, .convert t t2 x, tt, ps, af, g⟩ :: L) e Q := QL.step hg hd (yconvS (C := C) (w := w) hT hx ht hd1 he hed h2 hd2 R E hn) kk
end
end Go.Lt
namespace Go.Lt
open Go.RowKit
set_option linter.unusedVariables false
set_option linter.unusedSimpArgs false

section tree
variable {P : Program} {ops : Array Oper} {C : World → Prop} {early : Nat → Bool} {K : Act → World → Prop}

/-- The step yields v, and only makes memory. -/
def PureAt (P : Program) (s : Sem Next) (w : World) (v : Value) : Prop :=
  s.run P w = .ok (.value v) w ∨ ∃ f args, s.run P w = .ok (.enter f args) w ∧ Calls P f args w (fun x w' => x = .returned v ∧ Ext w w')

def PYields (P : Program) (ops : Array Oper) (C : World → Prop) (o : Oper) (v : Value) (a : Act) : Prop :=
  (Region.wanted o (yielded ops a.tmps) = true ∧ ∀ w, C w → PureAt P (execOp a.eval o) w v) ∨ (Region.wanted o (yielded ops a.tmps) = false ∧ v = undef)

def wpY (P : Program) (ops : Array Oper) (C : World → Prop) (early : Nat → Bool) (K : Act → World → Prop) : Strat → Act → World → Prop
  | .done, a, w => ∀ w', Ext w w' → K a w'
  | .fl b i k, a, w => ∃ o, ops[i]? = some o ∧ ∃ v, PYields P ops (fun w => b = true ∨ C w) o v a ∧ (b = true ∨ C w) ∧ wpY P ops C early K k (a.put o.dst v) w
  | .br i k more, a, w => (∃ o, ops[i]? = some o ∧ ∀ w', Ext w w' → wpList P ops (onlyN fun a' w'' => (early i = true → C w'') ∧ wpY P ops C early K k a' w'') [o] a w') ∧ wpY P ops C early K more a w
  | .stop, _, _ => True

end tree

structure SX (P : Program) (N : Nat) (l : List Oper) (w0 : World) (early : Nat → Bool) (s : Strat) (e : Env) (w : World) (Q : Exit → Act → World → Prop) : Prop where
  go : ∀ a, Fit N e a → wpY P l.toArray (Ext w0) early (fun a w => Q .normal a w) s a w
section rules
variable {P : Program} {N : Nat} {e : Env} {w w0 : World} {Q : Exit → Act → World → Prop} {l : List Oper} {early : Nat → Bool} {s k more : Strat} {o : Oper} {i : Nat}
theorem SX.done (h : ∀ w', Ext w w' → Z N Q .normal e w') : SX P N l w0 early .done e w Q := ⟨fun a hf w' hx => (h w' hx).go a w'.drawn hf⟩
theorem SX.stop : SX P N l w0 early .stop e w Q := ⟨fun a hf => trivial⟩
theorem SX.br (ho : nthO l i = some o) (h : ∀ w', Ext w w' → WL P N l.toArray [o] e w' (onlyN fun a' w'' => (early i = true → Ext w0 w'') ∧ wpY P l.toArray (Ext w0) early (fun a w => Q .normal a w) k a' w'')) (hm : SX P N l w0 early more e w Q) : SX P N l w0 early (.br i k more) e w Q :=
  ⟨fun a hf => ⟨⟨o, nthO_eq ho, fun w' hx => (h w' hx).go a w'.drawn hf⟩, hm.go a hf⟩⟩
end rules
end Go.Lt
namespace Go.Lt
open Go.RowKit
set_option linter.unusedVariables false
set_option linter.unusedSimpArgs false

section arr
variable {P : Program} {T : Tab} {e : Env} {dd : Option Tmp} {t tt ty : TypeId} {x y : Operand} {ps : String} {af : Array Edge} {g : Option (Nat × Bool)}
theorem yindexA (hT : OkTab P T) {b off n s : Nat} {k : IntKind} {i : Int} {ti ei : TI} {el : TypeId}
    (hx : ev e x = some (.pointer (some ⟨b, off, none⟩))) (hy : ev e y = some (.int k i)) (ht : tget T t = some ti) (hd : ti.desc = .array n el) (he : tget T el = some ei) (hs : ei.size = s)
    (h0 : 0 ≤ i ∧ i < n) : Yields P e ⟨dd, .indexAddr t x y, tt, ps, af, g⟩ (.pointer (some ⟨b, off + i.toNat * s, none⟩)) := by
  intro ρ hρ w'
  have h1 := run_underlying' (hT.at ht); rw [hd] at h1
  have h2 := run_sizeOf' (hT.at he); rw [hs] at h2
  simp [execOp, hρ _ _ hx, hρ _ _ hy, Instr.indexAt, Instr.sureAddr, asIntOf, h1, h2, h0, Addr_add_none]
end arr
section rules
variable {P : Program} {N : Nat} {e : Env} {w : World} {Q : Exit → Act → World → Prop} {C : World → Prop} {ops : List Oper} {l : List Oper} {T : Tab}
  {d : Nat} {tt t ty : TypeId} {ps : String} {af : Array Edge} {g : Option (Nat × Bool)} {x y : Operand}
theorem WL.indexA (hT : OkTab P T) {b off n s : Nat} {k : IntKind} {i : Int} {ti ei : TI} {el : TypeId} (hg : gate ops e g = some true) (hd : Nat.blt d N = true)
    (hx : ev e x = some (.pointer (some ⟨b, off, none⟩))) (hy : ev e y = some (.int k i)) (ht : tget T t = some ti) (htd : ti.desc = .array n el) (he : tget T el = some ei) (hs : ei.size = s) (h0 : 0 ≤ i ∧ i < n)
    (k : WL P N ops.toArray l ((d, .pointer (some ⟨b, off + i.toNat * s, none⟩)) :: e) w Q) : WL P N ops.toArray (⟨some d, .indexAddr t x y, tt, ps, af, g⟩ :: l) e w Q := WL.step hg hd (yindexA hT hx hy ht htd he hs h0).in k
theorem QL.indexA (hT : OkTab P T) {b off n s : Nat} {k : IntKind} {i : Int} {ti ei : TI} {el : TypeId} (hg : gate ops e g = some true) (hd : Nat.blt d N = true)
    (hx : ev e x = some (.pointer (some ⟨b, off, none⟩))) (hy : ev e y = some (.int k i)) (ht : tget T t = some ti) (htd : ti.desc = .array n el) (he : tget T el = some ei) (hs : ei.size = s) (h0 : 0 ≤ i ∧ i < n)
    (k : QL P N C ops.toArray l ((d, .pointer (some ⟨b, off + i.toNat * s, none⟩)) :: e) Q) : QL P N C ops.toArray (⟨some d, .indexAddr t x y, tt, ps, af, g⟩ :: l) e Q := QL.step hg hd (yindexA hT hx hy ht htd he hs h0).in k
end rules

section lift
variable {H : Type} {enc : TypeId × Value → H} {P : Program} {w : World} {base : Nat} {spare : Nat → Bool} {held : Bool}
end lift
end Go.Lt
namespace Go.Lt
open Go.ChangeShapes Go.WideShapes Go.ChangeAt Go.RowKit Go.Deep
end Go.Lt
namespace Go.Lt
open Go.RowKit
set_option linter.unusedVariables false
set_option linter.unusedSimpArgs false

section
variable {P : Program} {T : Tab} {N d : Nat} {e : Env} {w : World} {ops l : List Oper} {Kf : Act → Prop} {tt t ty ct : TypeId} {ps : String} {af : Array Edge} {g : Option (Nat × Bool)} {x y : Operand}
end
end Go.Lt
namespace Go.Lt
open Go.RowKit
set_option linter.unusedVariables false
set_option linter.unusedSimpArgs false

section
variable {P : Program} {T : Tab} {N : Nat} {e : Env} {w : World} {Q : Exit → Act → World → Prop} {ops : List Oper} {l : List Oper}
  {d : Nat} {tt t ty kt et : TypeId} {ps : String} {af : Array Edge} {g : Option (Nat × Bool)} {x y : Operand} {i : TI} {dd : Option Tmp}
end
end Go.Lt
namespace Go.Lt
open Go.RowKit
theorem cells_tabFrom {W : World} {b : Nat} {k : IntKind} {zs : List Int} (h : ∀ i, i < zs.length → W.cell? ⟨b, i, none⟩ = some (.int k (zs.getD i 0))) : ∀ (r : List Int) (off : Nat), zs.drop off = r → Cells W b off (r.map (Value.int k))
  | [], _, _ => trivial
  | z :: r, off, e => by
    have hl : off < zs.length := by
      refine Classical.byContradiction fun hn => ?_
      rw [List.drop_eq_nil_of_le (by omega)] at e; cases e
    rw [List.drop_eq_getElem_cons hl] at e
    simp only [List.cons.injEq] at e
    refine ⟨?_, cells_tabFrom h r (off + 1) e.2⟩
    rw [h off hl, List.getD_eq_getElem?_getD, List.getElem?_eq_getElem hl, e.1]; rfl
theorem cells_tab {W : World} {b : Nat} {k : IntKind} {zs : List Int} (h : ∀ i, i < zs.length → W.cell? ⟨b, i, none⟩ = some (.int k (zs.getD i 0))) : Cells W b 0 (zs.map (Value.int k)) := cells_tabFrom h zs 0 rfl
theorem Cells.at {w : World} {b : Nat} : ∀ {l : List Value} {off i : Nat} {v : Value}, Cells w b off l → l[i]? = some v → w.cell? ⟨b, off + i, none⟩ = some v
  | u :: r, off, 0, v, h, e => by simp at e; subst e; exact h.1
  | u :: r, off, i + 1, v, h, e => by
    have := Cells.at (i := i) h.2 (by simpa using e)
    rwa [show off + 1 + i = off + (i + 1) by omega] at this
end Go.Lt
namespace Go.Proofs.YtlcenenkloicjaaDoor
open Go Go.Lt
set_option linter.unusedVariables false
set_option linter.unusedSimpArgs false
set_option maxRecDepth 20000

theorem val3_le (v : Int) : 0 ≤ val3 v ∧ val3 v ≤ 2 := by unfold val3; split <;> omega
def sgn (v : Int) : UInt8 := if v = 0 then 48 else if v = 1 then 49 else 120
def sig3 : List UInt8 := [48, 49, 120]
theorem sgn_told {v : Int} (h : ¬ told3 v) : sgn v = 120 := by
  unfold told3 at h; unfold sgn; rw [if_neg (fun q => h (.inl q)), if_neg (fun q => h (.inr q))]
theorem sgn_val3 (v : Int) : sgn (val3 v) = sgn v := by
  unfold val3; by_cases h : v = 0 ∨ v = 1
  · rw [if_pos h]
  · rw [if_neg h, sgn_told h]; rfl
/-- The value of a sign; -1 where it is none. -/
def rdv (c : UInt8) : Int := if c = 48 then 0 else if c = 49 then 1 else if c = 120 then 2 else -1
theorem rdv_sgn {c : UInt8} (h : 0 ≤ rdv c) : sgn (rdv c) = c := by
  unfold rdv at h ⊢
  by_cases h0 : c = 48
  · rw [if_pos h0, h0]; rfl
  · rw [if_neg h0] at h ⊢; by_cases h1 : c = 49
    · rw [if_pos h1, h1]; rfl
    · rw [if_neg h1] at h ⊢; by_cases h2 : c = 120
      · rw [if_pos h2, h2]; rfl
      · rw [if_neg h2] at h; omega
/-- Of the first k signs: the one that c is, else what was. -/
def rdk (c : UInt8) : Nat → Int → Int
  | 0, x => x
  | k + 1, x => if sig3[k]? = some c then k else rdk c k x
theorem rdk3 (c : UInt8) : rdk c 3 (-1) = rdv c := by
  have e0 : sig3[0]? = some 48 := rfl
  have e1 : sig3[1]? = some 49 := rfl
  have e2 : sig3[2]? = some 120 := rfl
  unfold rdv rdk rdk rdk rdk
  rw [e0, e1, e2]
  simp only [Option.some.injEq]
  by_cases h0 : c = 48
  · subst h0; rfl
  · by_cases h1 : c = 49
    · subst h1; rfl
    · by_cases h2 : c = 120
      · subst h2; rfl
      · rw [if_neg h0, if_neg h1, if_neg h2, if_neg (fun h => h2 h.symm), if_neg (fun h => h1 h.symm), if_neg (fun h => h0 h.symm)]
def badS (s : List UInt8) : Bool := s.any fun c => decide (rdv c < 0)
theorem map_sgn {s : List UInt8} (h : badS s = false) : (s.map rdv).map sgn = s := by
  induction s with
  | nil => rfl
  | cons c r ih =>
    simp only [badS, List.any_cons, Bool.or_eq_false_iff, decide_eq_false_iff_not] at h
    simp only [List.map_cons]
    rw [rdv_sgn (by omega), ih h.2]
theorem u8_eq {a b : UInt8} : ((a.toNat : Int) = (b.toNat : Int)) ↔ a = b := by
  constructor
  · intro h; exact UInt8.toNat_inj.1 (by omega)
  · rintro rfl; rfl
abbrev z8 : UInt8 := 0
theorem enc8_ok : Enc 1 enc8 := ⟨fun _ => rfl, fun x u hu => by simp at hu; subst hu; rfl, by decide⟩
/-- The signs of the first k. -/
def fillS (l : List Int) (k : Nat) : List UInt8 := tab l.length (fun u => if u < k then sgn (l.getD u 0) else 0)
theorem fillS_zero (l : List Int) : List.replicate l.length (0 : UInt8) = fillS l 0 := by rw [tab_rep]; exact tab_congr fun u hu => (if_neg (by omega)).symm
theorem fillS_len (l : List Int) (k : Nat) : (fillS l k).length = l.length := tab_len _ _
theorem fillS_set {l : List Int} {k : Nat} {x : Int} (h : l[k]? = some x) : (fillS l k).set k (sgn x) = fillS l (k + 1) := by
  refine tab_set fun u hu => ?_
  by_cases hk : u = k
  · subst hk; rw [if_pos rfl, if_pos (by omega), List.getD, h]; rfl
  · rw [if_neg hk]
    by_cases h1 : u < k
    · rw [if_pos h1, if_pos (by omega)]
    · rw [if_neg h1, if_neg (by omega)]
theorem fillS_all (l : List Int) : fillS l l.length = l.map sgn := by
  refine (tab_eq (l := l.map sgn) (by simp) fun u x h => ?_).symm
  rw [List.getElem?_map] at h
  cases hy : l[u]? with
  | none => rw [hy] at h; cases h
  | some y =>
    rw [hy] at h
    have := (List.getElem?_eq_some_iff.1 hy).1
    rw [if_pos this, List.getD, hy]
    exact Option.some.inj h
end Go.Proofs.YtlcenenkloicjaaDoor
namespace Go.Proofs.YtlcenenkloicjaaDoor
open Go Go.Lt Go.RowKit
set_option linter.unusedVariables false
set_option linter.unusedSimpArgs false
set_option maxRecDepth 20000

abbrev sgW : List Value := ([48, 49, 120] : List Int).map (Value.int .u8)
theorem sgW_at {w : World} {b : Nat} (h : Cells w b 0 sgW) {v : Int} (hv : 0 ≤ v ∧ v ≤ 2) : w.cell? ⟨b, 0 + v.toNat * 1, none⟩ = some (.int .u8 ((sgn v).toNat : Int)) := by
  refine Cells.at h ?_
  obtain rfl | rfl | rfl : v = 0 ∨ v = 1 ∨ v = 2 := by omega
  all_goals rfl
theorem tri_told1 (a : Int) (h : told3 a) (w : World) : Still Tryd.prog 23 [.int .i64 a] w (.bool true) := by
  have := tri_told a w; rwa [dec_true h] at this
theorem tri_told0 (a : Int) (h : ¬ told3 a) (w : World) : Still Tryd.prog 23 [.int .i64 a] w (.bool false) := by
  have := tri_told a w; rwa [dec_false h] at this
theorem tri_Text (a : Option Addr) (cap : Nat) (l : List Int) (w : World) (R : Row 1 encI w a l) (hl : l.length ≤ 1048576) (hG : Cells w 0 0 sgW) : Pure Tryd.prog 10 [.slice a l.length cap] w (.string ⟨(l.map sgn).toArray⟩) := by
  refine Spec.of _ Tryd.func10 rfl Tryd.ntmps10 (by kernel_rfl) rfl ?_
  repeat' (first
    | (apply WL.make (w0 := w) (z := z8) tOk; exact rfl; exact rfl; exact rfl; exact rfl; exact rfl; exact rfl; exact rfl; exact rfl; exact rfl; exact enc8_ok; exact rfl; exact rfl; (exact extA); (first | omega | (simp; omega) | (simp at *; omega)); intro gb w' hO hge hx)
    | (show WL _ _ _ _ _ _ _; first | apply WL.nil | (refine WL.au (k := ?_)))
    | (show Z _ _ _ _ _; apply Z.then_normal)
    | (show W _ _ _ _ _ _; first | apply W.seq | apply W.region | apply W.block)
    | fail)
  have en : ((l.length : Nat) : Int).toNat = l.length := Int.toNat_natCast _
  have e0l : (List.replicate l.length (0 : UInt8)).length = l.length := List.length_replicate
  rw [en] at hO ⊢
  rw [fillS_zero] at hO
  obtain ⟨g0, rfl⟩ : ∃ x, x = gb := ⟨_, rfl⟩
  have hfl0 := fillS_len l 0
  refine W.loopW l.length (fun k w' => k ≤ l.length ∧ Ext w w' ∧ Own 1 enc8 5 w.heap.size w' (some ⟨g0, 0, none⟩) l.length (fillS l k))
    (fun k => [(0, .slice a l.length cap), (3, .slice (some ⟨g0, 0, none⟩) l.length l.length), (9, .slice a l.length cap), (10, .int .i64 (l.length : Nat)), (11, .int .i64 k)]) ⟨by omega, hx, hO⟩ (fun k w' h => h.1) (by repeat' first | exact trivial | (refine And.intro ?_ ?_) | exact rfl | (rw [e0l]; exact rfl)) ?_
  clear hO
  rintro k w' ⟨hk, hx', hO'⟩
  have hfl := fillS_len l k
  by_cases hlt : k < l.length
  · obtain ⟨x, hz⟩ := getI l hlt
    obtain ⟨y, hy⟩ := getI (fillS l k) (show k < _ by omega)
    have R1 := R.ext hx'
    by_cases ht : told3 x
    · have hv : 0 ≤ x ∧ x ≤ 2 := by unfold told3 at ht; omega
      have hc := sgW_at (hG.ext hx') hv
      repeat' (first
        | (apply W.condKT; exact rfl; (focus (first | exact dec_true (by omega); done)))
        | ((show WL _ _ _ (⟨_, .call ⟨.value (.func 23), _, _⟩, _, _, _, _⟩ :: _) _ _ _); apply WL.callS; exact rfl; exact rfl; exact rfl; exact rfl; exact tri_told1 x ht _)
        | (apply WL.indexO tOk; exact rfl; exact rfl; exact rfl; exact rfl; exact rfl; exact rfl; exact rfl; exact rfl; assumption; (exact extA); exact enc8_ok; (first | exact rfl | (focus (simp only [List.length_set]; done)) | (focus (simp; done)) | (focus (simp [*]; done)) | omega | (focus (simp only [List.length_set]; omega))); omega; assumption; intro gb ha hc; cases ha; have hcc := hc; first | (obtain ⟨h1, h2, h3, _⟩ := hc) | (obtain ⟨h1, h2, _⟩ := hc) | (obtain ⟨h1, _⟩ := hc))
        | ((apply WL.indexA tOk; exact rfl; exact rfl; exact rfl; exact rfl; exact rfl; exact rfl; exact rfl; exact rfl; omega))
        | (apply WL.storeO tOk; exact rfl; exact rfl; exact rfl; exact rfl; assumption; (exact extA); exact rfl; exact rfl; exact rfl; exact enc8_ok; assumption; exact rfl; (exact extA); intro w' hO hX' hU)
        | (show WL _ _ _ _ _ _ _; first | apply WL.nil | (refine WL.au (k := ?_)) | (apply WL.index tOk; exact rfl; exact rfl; exact rfl; exact rfl; exact rfl; exact rfl; exact rfl; exact rfl; assumption; (exact extA); exact rfl; omega; assumption; intro b off h; have hcc := h; first | (obtain ⟨h1, h2, h3, h4, h5, h6, _⟩ := h) | (obtain ⟨h1, h2, h3, _⟩ := h) | (obtain ⟨h1, h2, _⟩ := h) | (obtain ⟨h1, _⟩ := h)))
        | (show Z _ _ _ _ _; first | apply Z.then_normal | apply Z.block_normal)
        | (show W _ _ _ _ _ _; first | apply W.seq | apply W.region | apply W.block | apply W.skip | (apply W.condF; exact rfl))
        | fail)
      rw [Int.toNat_natCast, fillS_set hz] at hO
      exact Z.againW ⟨by omega, by assumption, hO⟩ ⟨rfl, rfl, rfl, rfl, rfl, trivial⟩
    · have hc := sgW_at (hG.ext hx') (v := 2) (by omega)
      repeat' (first
        | (apply W.condKT; exact rfl; (focus (first | exact dec_true (by omega); done)))
        | ((show WL _ _ _ (⟨_, .call ⟨.value (.func 23), _, _⟩, _, _, _, _⟩ :: _) _ _ _); apply WL.callS; exact rfl; exact rfl; exact rfl; exact rfl; exact tri_told0 x ht _)
        | (apply WL.indexO tOk; exact rfl; exact rfl; exact rfl; exact rfl; exact rfl; exact rfl; exact rfl; exact rfl; assumption; (exact extA); exact enc8_ok; (first | exact rfl | (focus (simp only [List.length_set]; done)) | (focus (simp; done)) | (focus (simp [*]; done)) | omega | (focus (simp only [List.length_set]; omega))); omega; assumption; intro gb ha hc; cases ha; have hcc := hc; first | (obtain ⟨h1, h2, h3, _⟩ := hc) | (obtain ⟨h1, h2, _⟩ := hc) | (obtain ⟨h1, _⟩ := hc))
        | ((apply WL.indexA tOk; exact rfl; exact rfl; exact rfl; exact rfl; exact rfl; exact rfl; exact rfl; exact rfl; omega))
        | (apply WL.storeO tOk; exact rfl; exact rfl; exact rfl; exact rfl; assumption; (exact extA); exact rfl; exact rfl; exact rfl; exact enc8_ok; assumption; exact rfl; (exact extA); intro w' hO hX' hU)
        | (show WL _ _ _ _ _ _ _; first | apply WL.nil | (refine WL.au (k := ?_)) | (apply WL.index tOk; exact rfl; exact rfl; exact rfl; exact rfl; exact rfl; exact rfl; exact rfl; exact rfl; assumption; (exact extA); exact rfl; omega; assumption; intro b off h; have hcc := h; first | (obtain ⟨h1, h2, h3, h4, h5, h6, _⟩ := h) | (obtain ⟨h1, h2, h3, _⟩ := h) | (obtain ⟨h1, h2, _⟩ := h) | (obtain ⟨h1, _⟩ := h)))
        | (show Z _ _ _ _ _; first | apply Z.then_normal | apply Z.block_normal)
        | (show W _ _ _ _ _ _; first | apply W.seq | apply W.region | apply W.block | apply W.skip | (apply W.condT; exact rfl))
        | fail)
      rw [Int.toNat_natCast, show sgn 2 = sgn x from (sgn_told ht).symm, fillS_set hz] at hO
      exact Z.againW ⟨by omega, by assumption, hO⟩ ⟨rfl, rfl, rfl, rfl, rfl, trivial⟩
  · obtain rfl : k = l.length := by omega
    rw [fillS_all] at hO'
    have R8 := hO'.row enc8_ok
    repeat' (first
      | (apply W.condKF; exact rfl; (focus (first | exact dec_false (by omega); done)))
      | (apply WL.convS tOk; exact rfl; exact rfl; exact rfl; exact rfl; exact rfl; exact rfl; exact rfl; exact rfl; exact rfl; assumption; (exact extA); (first | exact rfl | (focus (simp only [List.length_set]; done)) | (focus (simp; done)) | (focus (simp [*]; done)) | omega | (focus (simp only [List.length_set]; omega))))
      | (show WL _ _ _ _ _ _ _; first | apply WL.nil | (refine WL.au (k := ?_)))
      | (show Z _ _ _ _ _; first | apply Z.then_normal | apply Z.then_exit | apply Z.block_exit)
      | (show W _ _ _ _ _ _; first | apply W.seq | apply W.region | apply W.ret | apply W.exit)
      | fail)
    exact Z.body1 Tryd.results10 rfl fun m => ⟨rfl, Ext.at (by (exact extA)) m⟩

/-- The reference's: one sign behind the other. -/
theorem txt_cut (v : Int) (h : 0 ≤ v ∧ v ≤ 2) : ((⟨#[48, 49, 120]⟩ : ByteArray).extract v.toNat (v + 1).toNat) = ⟨#[sgn v]⟩ := by
  obtain rfl | rfl | rfl : v = 0 ∨ v = 1 ∨ v = 2 := by omega
  all_goals rfl
theorem txt_b {v : Int} (h : 0 ≤ v ∧ v ≤ 2) : v + 1 ≤ (((⟨#[48, 49, 120]⟩ : ByteArray).size : Nat) : Int) := by
  show v + 1 ≤ 3; omega
def txtS (l : List Int) : ByteArray := ⟨(l.map sgn).toArray⟩
theorem txtS_snoc {l : List Int} {k : Nat} {x : Int} (h : l[k]? = some x) : txtS (l.take k) ++ ⟨#[sgn x]⟩ = txtS (l.take (k + 1)) := by
  apply byt_inj
  rw [byt_app]
  have e : l.take (k + 1) = l.take k ++ [x] := by
    rw [List.take_add_one, h]; rfl
  rw [e]
  simp [byt, txtS]
theorem txtS_size (l : List Int) : (txtS l).size = l.length := by
  show (txtS l).data.size = _
  simp [txtS]
theorem ref_Text (a : Option Addr) (cap : Nat) (l : List Int) (w : World) (R : Row 1 encI w a l) (hl : l.length ≤ 1048576) : Still Tryd.prog 11 [.slice a l.length cap] w (.string (txtS l)) := by
  refine Spec.of _ Tryd.func11 rfl Tryd.ntmps11 (by kernel_rfl) rfl ?_
  repeat' (first
    | (show WL _ _ _ _ _ _ _; first | apply WL.nil | (refine WL.au (k := ?_)))
    | (show Z _ _ _ _ _; apply Z.then_normal)
    | (show W _ _ _ _ _ _; first | apply W.seq | apply W.region | apply W.block)
    | fail)
  refine W.loop1 l.length (fun k => k ≤ l.length) (fun k => [(0, .slice a l.length cap), (3, .string (txtS (l.take k))), (4, .int .i64 k)]) (by omega) (fun k h => h) (by repeat' first | exact trivial | (refine And.intro ?_ ?_) | exact rfl) ?_
  rintro k hk
  by_cases hlt : k < l.length
  · obtain ⟨x, hz⟩ := getI l hlt
    have hv := val3_le x
    have e := txt_cut (val3 x) hv
    have hs := txtS_size (l.take k)
    have hs2 : (l.take k).length ≤ 1048576 := by rw [List.length_take]; omega
    repeat' (first
      | (apply W.condKT; exact rfl; (focus (first | exact dec_true (by omega); done)))
      | ((show QL _ _ _ _ (⟨_, .call ⟨.value (.func 24), _, _⟩, _, _, _, _⟩ :: _) _ _); apply QL.callS; exact rfl; exact rfl; exact rfl; exact rfl; exact ref_value x _)
      | ((apply QL.sliceS tOk; exact rfl; exact rfl; exact rfl; exact rfl; exact rfl; exact rfl; exact rfl; omega; exact txt_b hv))
      | ((apply QL.addS; exact rfl; exact rfl; exact rfl; exact rfl; (rw [e, hs]; show _ + 1 ≤ _; omega)))
      | (show WL _ _ _ _ _ _ _; first | apply WL.nil | (refine WL.au (k := ?_)))
      | (show QL _ _ _ _ _ _ _; first | apply QL.nil | (refine QL.au (k := ?_)) | (apply QL.index tOk; exact rfl; exact rfl; exact rfl; exact rfl; exact rfl; exact rfl; exact rfl; exact rfl; assumption; (exact extA); exact rfl; omega; assumption; intro b off h; have hcc := h; first | (obtain ⟨h1, h2, h3, h4, h5, h6, _⟩ := h) | (obtain ⟨h1, h2, h3, _⟩ := h) | (obtain ⟨h1, h2, _⟩ := h) | (obtain ⟨h1, _⟩ := h)))
      | (show Z _ _ _ _ _; first | apply Z.then_normal | apply Z.block_normal)
      | (show W _ _ _ _ _ _; first | apply W.seq | apply W.region | apply W.block | apply W.skip | (apply W.regionD tMix; kernel_rfl))
      | fail)
    rw [e, sgn_val3, txtS_snoc hz]
    exact Z.again1 (by omega) ⟨rfl, rfl, rfl, trivial⟩
  · obtain rfl : k = l.length := by omega
    repeat' (first
      | (apply W.condKF; exact rfl; (focus (first | exact dec_false (by omega); done)))
      | (show WL _ _ _ _ _ _ _; first | apply WL.nil | (refine WL.au (k := ?_)))
      | (show Z _ _ _ _ _; first | apply Z.then_normal | apply Z.then_exit | apply Z.block_exit)
      | (show W _ _ _ _ _ _; first | apply W.seq | apply W.region | apply W.ret | apply W.exit)
      | fail)
    rw [List.take_length]
    exact Z.body1 Tryd.results11 rfl fun m => ⟨rfl, m, rfl⟩
end Go.Proofs.YtlcenenkloicjaaDoor
namespace Go.Lt
open Go.RowKit
set_option linter.unusedVariables false
set_option linter.unusedSimpArgs false
section
variable {P : Program} {N : Nat} {e : Env} {w : World} {Q : Exit → Act → World → Prop} {C : World → Prop} {Kf : Act → Prop} {ops : List Oper} {l : List Oper} {T T' : Tab}
  {d : Nat} {tt t ty : TypeId} {ps : String} {af : Array Edge} {g : Option (Nat × Bool)} {x y : Operand} {ti ei : TI} {el : TypeId} {n : Nat}
theorem yindexV (hT : OkTab P T) (hT' : OkTab P T') {cs : Array Value} {k : IntKind} {i : Int} {v : Value} {dd : Option Tmp} (hx : ev e x = some (.agg cs)) (hy : ev e y = some (.int k i)) (ht : tget T t = some ti) (htd : ti.desc = .array n el) (he : tget T' el = some ei) (hs : ei.size = 1) (ha : isAggD ei.desc = false)
    (h0 : 0 ≤ i ∧ i < n) (hv : cs[i.toNat]? = some v) : Yields P e ⟨dd, .index t x y, tt, ps, af, g⟩ v := by
  intro ρ hρ w'
  have h1 := run_underlying' (hT.at ht); rw [htd] at h1
  have h2 := run_sizeOf' (hT'.at he); rw [hs] at h2
  have h3 := run_isAgg' (hT'.at he); rw [ha] at h3
  simp [execOp, hρ _ _ hx, hρ _ _ hy, Instr.index, asIntOf, h1, h2, h0, part, h3, hv]
theorem WL.indexV (hT : OkTab P T) (hT' : OkTab P T') {cs : Array Value} {k : IntKind} {i : Int} {v : Value} (hg : gate ops e g = some true) (hd : Nat.blt d N = true) (hx : ev e x = some (.agg cs)) (hy : ev e y = some (.int k i)) (ht : tget T t = some ti) (htd : ti.desc = .array n el) (he : tget T' el = some ei) (hs : ei.size = 1) (ha : isAggD ei.desc = false)
    (h0 : 0 ≤ i ∧ i < n) (hv : cs[i.toNat]? = some v) (k' : WL P N ops.toArray l ((d, v) :: e) w Q) : WL P N ops.toArray (⟨some d, .index t x y, tt, ps, af, g⟩ :: l) e w Q := WL.step hg hd (yindexV hT hT' hx hy ht htd he hs ha h0 hv).in k'
theorem FL.indexV (hT : OkTab P T) (hT' : OkTab P T') {cs : Array Value} {k : IntKind} {i : Int} {v : Value} (hg : gate ops e g = some true) (hd : Nat.blt d N = true) (hx : ev e x = some (.agg cs)) (hy : ev e y = some (.int k i)) (ht : tget T t = some ti) (htd : ti.desc = .array n el) (he : tget T' el = some ei) (hs : ei.size = 1) (ha : isAggD ei.desc = false)
    (h0 : 0 ≤ i ∧ i < n) (hv : cs[i.toNat]? = some v) (k' : FL P N ops.toArray C l ((d, v) :: e) w Kf) : FL P N ops.toArray C (⟨some d, .index t x y, tt, ps, af, g⟩ :: l) e w Kf := FL.step hg hd (yindexV hT hT' hx hy ht htd he hs ha h0 hv).in k'
end
end Go.Lt
namespace Go.Proofs.YtlcenenkloicjaaDoor
open Go Go.Lt Go.RowKit
set_option linter.unusedVariables false
set_option linter.unusedSimpArgs false
set_option maxRecDepth 20000

/-- The first k are read, the k-th stands at x, the others at 0. -/
def fillR (s : List UInt8) (k : Nat) (x : Int) : List Int := tab s.length (fun u => if u < k then rdv (s.getD u 0) else if u = k then x else 0)
theorem fillR_len (s : List UInt8) (k : Nat) (x : Int) : (fillR s k x).length = s.length := tab_len _ _
theorem fillR_zero (s : List UInt8) : List.replicate s.length (0 : Int) = fillR s 0 0 := by
  rw [tab_rep]; exact tab_congr fun u hu => by split <;> (try split) <;> first | rfl | omega
theorem fillR_set (s : List UInt8) (k : Nat) (x y : Int) : (fillR s k x).set k y = fillR s k y := by
  refine tab_set fun u hu => ?_
  by_cases hk : u = k
  · subst hk; rw [if_pos rfl, if_neg (by omega), if_pos rfl]
  · rw [if_neg hk]
    by_cases h1 : u < k
    · rw [if_pos h1, if_pos h1, if_neg hk]
    · rw [if_neg h1, if_neg h1, if_neg hk, if_neg hk]
theorem fillR_get {s : List UInt8} {k : Nat} {x : Int} (h : k < s.length) : (fillR s k x)[k]? = some x := by
  rw [fillR, tab_get _ h, if_neg (by omega), if_pos rfl]
theorem fillR_next {s : List UInt8} {k : Nat} {c : UInt8} (h : s[k]? = some c) : fillR s k (rdv c) = fillR s (k + 1) 0 := by
  refine tab_congr fun u hu => ?_
  by_cases hk : u = k
  · subst hk; rw [if_neg (by omega), if_pos rfl, if_pos (by omega), List.getD, h]; rfl
  · by_cases h1 : u < k
    · rw [if_pos h1, if_pos (by omega)]
    · rw [if_neg h1, if_neg hk, if_neg (by omega)]
      split <;> rfl
theorem fillR_all (s : List UInt8) : fillR s s.length 0 = s.map rdv := by
  refine (tab_eq (l := s.map rdv) (by simp) fun u x h => ?_).symm
  rw [List.getElem?_map] at h
  cases hy : s[u]? with
  | none => rw [hy] at h; cases h
  | some y =>
    rw [hy] at h
    have := (List.getElem?_eq_some_iff.1 hy).1
    rw [if_pos this, List.getD, hy]
    exact Option.some.inj h
/-- A sign that is none: among the first k there is none such. -/
theorem badS_at {s : List UInt8} {k : Nat} {c : UInt8} (h : s[k]? = some c) (hc : rdv c < 0) : badS s = true := by
  unfold badS
  rw [List.any_eq_true]
  exact ⟨c, List.mem_of_getElem? h, by simpa using hc⟩
theorem badS_none {s : List UInt8} (h : ∀ (i : Nat) (c : UInt8), s[i]? = some c → 0 ≤ rdv c) : badS s = false := by
  unfold badS
  rw [List.any_eq_false]
  intro c hc
  obtain ⟨i, hi⟩ := List.mem_iff_getElem?.1 hc
  have := h i c hi
  simp; omega

/-- What is told: the values, or none, and an error. -/
def ReadTo (w : World) (s : List UInt8) (v : Value) (w' : World) : Prop :=
  Ext w w' ∧ ∃ a cap, v = .tuple #[.slice a (if badS s = true then [] else s.map rdv).length cap, .int .i64 (if badS s = true then 2 else 0)] ∧ Row 1 encI w' a (if badS s = true then [] else s.map rdv)
theorem sig3_eq {c : UInt8} {v : Nat} {d : UInt8} (hv : sig3[v]? = some d) (x : Int) : rdk c (v + 1) x = if c = d then (v : Int) else rdk c v x := by
  show (if sig3[v]? = some c then (v : Int) else rdk c v x) = _
  rw [hv]
  by_cases h : c = d
  · rw [if_pos h, if_pos (by rw [h])]
  · rw [if_neg h, if_neg (fun q => h (Option.some.inj q).symm)]
set_option maxHeartbeats 2000000 in
theorem tri_Read (s : ByteArray) (w : World) (hl : s.size ≤ 1048576) (hG : Cells w 0 0 sgW) : Lt.Spec Tryd.prog 7 [.string s] w (ReadTo w (byt s)) := by
  have hln : (byt s).length = s.size := byt_len s
  refine Spec.of _ Tryd.func7 rfl Tryd.ntmps7 (by kernel_rfl) rfl ?_
  repeat' (first
    | (apply WL.make (w0 := w) tOk; exact rfl; exact rfl; exact rfl; exact rfl; exact rfl; exact rfl; exact rfl; exact rfl; exact rfl; exact encI_ok; exact rfl; exact rfl; (exact extA); (first | omega | (simp; omega) | (simp at *; omega)); intro gb w' hO hge hx)
    | (show WL _ _ _ _ _ _ _; first | apply WL.nil | (refine WL.au (k := ?_)))
    | (show Z _ _ _ _ _; apply Z.then_normal)
    | (show W _ _ _ _ _ _; first | apply W.seq | apply W.region | apply W.block)
    | fail)
  have en : ((s.size : Nat) : Int).toNat = (byt s).length := by rw [Int.toNat_natCast, hln]
  rw [en] at hO ⊢
  rw [fillR_zero] at hO
  have e0l : (List.replicate (byt s).length (0 : Int)).length = (byt s).length := List.length_replicate
  obtain ⟨g0, rfl⟩ : ∃ x, x = gb := ⟨_, rfl⟩
  refine W.loopW s.size (fun k w' => k ≤ s.size ∧ (∀ i c, i < k → (byt s)[i]? = some c → 0 ≤ rdv c) ∧ Ext w w' ∧ Own 1 encI 3 w.heap.size w' (some ⟨g0, 0, none⟩) (byt s).length (fillR (byt s) k 0))
    (fun k => [(0, .string s), (4, .slice (some ⟨g0, 0, none⟩) (byt s).length (byt s).length), (12, .int .i64 (s.size : Nat)), (13, .int .i64 k)]) ⟨by omega, fun i c h => by omega, hx, hO⟩ (fun k w' h => h.1) (by repeat' first | exact trivial | (refine And.intro ?_ ?_) | exact rfl | (rw [e0l]; exact rfl)) ?_
  clear hO
  rintro k w' ⟨hk, hok, hx', hO'⟩
  by_cases hlt : k < s.size
  · obtain ⟨c, hc⟩ := getI (byt s) (show k < (byt s).length by omega)
    have hfl := fillR_len (byt s) k 0
    have hg0 := fillR_get (x := 0) (show k < (byt s).length by omega)
    repeat' (first
      | (apply W.condKT; exact rfl; (focus (first | exact dec_true (by omega); done)))
      | (apply WL.indexO tOk; exact rfl; exact rfl; exact rfl; exact rfl; exact rfl; exact rfl; exact rfl; exact rfl; assumption; (exact extA); exact encI_ok; (first | exact rfl | (focus (simp only [List.length_set]; done)) | (focus (simp; done)) | (focus (simp [*]; done)) | omega | (focus (simp only [List.length_set]; omega))); omega; assumption; intro gb ha hc; cases ha; have hcc := hc; first | (obtain ⟨h1, h2, h3, _⟩ := hc) | (obtain ⟨h1, h2, _⟩ := hc) | (obtain ⟨h1, _⟩ := hc))
      | (apply WL.storeO tOk; exact rfl; exact rfl; exact rfl; exact rfl; assumption; (exact extA); exact rfl; exact rfl; exact rfl; exact encI_ok; assumption; exact rfl; (exact extA); intro w' hO hX' hU)
      | (show WL _ _ _ _ _ _ _; first | apply WL.nil | (refine WL.au (k := ?_)))
      | (show Z _ _ _ _ _; apply Z.then_normal)
      | (show W _ _ _ _ _ _; first | apply W.seq | apply W.region | apply W.block | apply W.skip)
      | fail)
    rw [Int.toNat_natCast, fillR_set] at hO
    have hfm := fillR_len (byt s) k (-1)
    refine W.loopW 3 (fun v w' => v ≤ 3 ∧ Ext w w' ∧ Own 1 encI 3 w.heap.size w' (some ⟨g0, 0, none⟩) (byt s).length (fillR (byt s) k (rdk c v (-1))))
      (fun v => [(0, .string s), (4, .slice (some ⟨g0, 0, none⟩) (byt s).length (byt s).length), (12, .int .i64 (s.size : Nat)), (13, .int .i64 k), (5, .int .i64 k), (19, .agg sgW.toArray), (20, .int .i64 v)]) ⟨by omega, (by (exact extA)), hO⟩ (fun k w' h => h.1) (by repeat' first | exact trivial | (refine And.intro ?_ ?_) | exact rfl | (rw [hfl]; exact rfl) | (rw [hfm]; exact rfl)) ?_
    clear hO hO'
    rintro v w' ⟨hv3, hx', hO'⟩
    have hfl := fillR_len (byt s) k (rdk c v (-1))
    have hg0 := fillR_get (s := byt s) (k := k) (x := rdk c v (-1)) (by omega)
    by_cases hv : v < 3
    · obtain ⟨d, hd⟩ := getI sig3 (show v < sig3.length from hv)
      have hva : sgW.toArray[((v : Nat) : Int).toNat]? = some (.int .u8 (d.toNat : Int)) := by
        obtain rfl | rfl | rfl : v = 0 ∨ v = 1 ∨ v = 2 := by omega
        all_goals (obtain rfl := Option.some.inj hd; rfl)
      have er := sig3_eq (c := c) hd (-1)
      by_cases hcd : c = d
      · repeat' (first
          | (apply W.condKT; exact rfl; (focus (first | exact dec_true (by omega) | exact dec_true (u8_eq.2 hcd); done)))
          | (apply WL.indexO tOk; exact rfl; exact rfl; exact rfl; exact rfl; exact rfl; exact rfl; exact rfl; exact rfl; assumption; (exact extA); exact encI_ok; (first | exact rfl | (focus (simp only [List.length_set]; done)) | (focus (simp; done)) | (focus (simp [*]; done)) | omega | (focus (simp only [List.length_set]; omega))); omega; assumption; intro gb ha hc; cases ha; have hcc := hc; first | (obtain ⟨h1, h2, h3, _⟩ := hc) | (obtain ⟨h1, h2, _⟩ := hc) | (obtain ⟨h1, _⟩ := hc))
          | (apply WL.storeO tOk; exact rfl; exact rfl; exact rfl; exact rfl; assumption; (exact extA); exact rfl; exact rfl; exact rfl; exact encI_ok; assumption; exact rfl; (exact extA); intro w' hO hX' hU)
          | (apply WL.indexS tOk; exact rfl; exact rfl; exact rfl; exact rfl; exact rfl; exact rfl; omega; assumption)
          | ((apply WL.indexV tOk tOk; exact rfl; exact rfl; exact rfl; exact rfl; exact rfl; exact rfl; exact rfl; exact rfl; exact rfl; omega; exact hva))
          | (show WL _ _ _ _ _ _ _; first | apply WL.nil | (refine WL.au (k := ?_)))
          | (show Z _ _ _ _ _; first | apply Z.then_normal | apply Z.block_normal)
          | (show W _ _ _ _ _ _; first | apply W.seq | apply W.region | apply W.block | apply W.skip)
          | fail)
        rw [Int.toNat_natCast, fillR_set, show (v : Int) = rdk c (v + 1) (-1) by rw [er, if_pos hcd]] at hO
        exact Z.againW ⟨by omega, (by (exact extA)), hO⟩ ⟨rfl, rfl, rfl, rfl, rfl, rfl, rfl, trivial⟩
      · repeat' (first
          | (apply W.condKT; exact rfl; (focus (first | exact dec_true (by omega) | exact dec_false (fun q => hcd (u8_eq.1 q)); done)))
          | (apply W.condKF; exact rfl; (focus (first | exact dec_true (by omega) | exact dec_false (fun q => hcd (u8_eq.1 q)); done)))
          | (apply WL.indexS tOk; exact rfl; exact rfl; exact rfl; exact rfl; exact rfl; exact rfl; omega; assumption)
          | ((apply WL.indexV tOk tOk; exact rfl; exact rfl; exact rfl; exact rfl; exact rfl; exact rfl; exact rfl; exact rfl; exact rfl; omega; exact hva))
          | (show WL _ _ _ _ _ _ _; first | apply WL.nil | (refine WL.au (k := ?_)))
          | (show Z _ _ _ _ _; first | apply Z.then_normal | apply Z.block_normal)
          | (show W _ _ _ _ _ _; first | apply W.seq | apply W.region | apply W.block | apply W.skip)
          | fail)
        rw [show rdk c v (-1) = rdk c (v + 1) (-1) by rw [er, if_neg hcd]] at hO'
        exact Z.againW ⟨by omega, hx', hO'⟩ ⟨rfl, rfl, rfl, rfl, rfl, rfl, rfl, trivial⟩
    · obtain rfl : v = 3 := by omega
      rw [rdk3] at hO' hfl hg0
      by_cases hr : rdv c < 0
      · repeat' (first
          | (apply W.condKT; exact rfl; (focus (first | exact dec_false (by omega) | exact dec_true hr; done)))
          | (apply W.condKF; exact rfl; (focus (first | exact dec_false (by omega) | exact dec_true hr; done)))
          | (apply WL.indexO tOk; exact rfl; exact rfl; exact rfl; exact rfl; exact rfl; exact rfl; exact rfl; exact rfl; assumption; (exact extA); exact encI_ok; (first | exact rfl | (focus (simp only [List.length_set]; done)) | (focus (simp; done)) | (focus (simp [*]; done)) | omega | (focus (simp only [List.length_set]; omega))); omega; assumption; intro gb ha hc; cases ha; have hcc := hc; first | (obtain ⟨h1, h2, h3, _⟩ := hc) | (obtain ⟨h1, h2, _⟩ := hc) | (obtain ⟨h1, _⟩ := hc))
          | (show WL _ _ _ _ _ _ _; first | apply WL.nil | (refine WL.au (k := ?_)))
          | (show Z _ _ _ _ _; first | apply Z.then_normal | apply Z.then_exit | apply Z.block_exit | apply Z.then_ret | apply Z.block_ret)
          | (show W _ _ _ _ _ _; first | apply W.seq | apply W.region | apply W.ret | apply W.exit)
          | fail)
        have hb := badS_at hc hr
        exact Z.body2 Tryd.results7 rfl rfl fun m => ⟨Ext.at (by (exact extA)) m, none, 0, by rw [if_pos hb, if_pos hb]; rfl, by rw [if_pos hb]; exact Row.nil _ _ _ _⟩
      · repeat' (first
          | (apply W.condKF; exact rfl; (focus (first | exact dec_false (by omega); done)))
          | (apply WL.indexO tOk; exact rfl; exact rfl; exact rfl; exact rfl; exact rfl; exact rfl; exact rfl; exact rfl; assumption; (exact extA); exact encI_ok; (first | exact rfl | (focus (simp only [List.length_set]; done)) | (focus (simp; done)) | (focus (simp [*]; done)) | omega | (focus (simp only [List.length_set]; omega))); omega; assumption; intro gb ha hc; cases ha; have hcc := hc; first | (obtain ⟨h1, h2, h3, _⟩ := hc) | (obtain ⟨h1, h2, _⟩ := hc) | (obtain ⟨h1, _⟩ := hc))
          | (show WL _ _ _ _ _ _ _; first | apply WL.nil | (refine WL.au (k := ?_)))
          | (show Z _ _ _ _ _; first | apply Z.then_normal | apply Z.block_normal | apply Z.then_exit | apply Z.block_exit)
          | (show W _ _ _ _ _ _; first | apply W.seq | apply W.region | apply W.skip | apply W.exit)
          | fail)
        rw [fillR_next hc] at hO'
        exact Z.againW ⟨by omega, fun i d hi hd => (by
          by_cases hik : i < k
          · exact hok i d hik hd
          · obtain rfl : i = k := by omega
            rw [hc] at hd; obtain rfl := Option.some.inj hd; omega), hx', hO'⟩ ⟨rfl, rfl, rfl, rfl, trivial⟩
  · obtain rfl : k = s.size := by omega
    rw [← hln, fillR_all] at hO'
    have hb : badS (byt s) = false := badS_none fun i c hi => hok i c (by have := lt_of_get hi; omega) hi
    repeat' (first
      | (apply W.condKF; exact rfl; (focus (first | exact dec_false (by omega); done)))
      | (show WL _ _ _ _ _ _ _; first | apply WL.nil | (refine WL.au (k := ?_)))
      | (show Z _ _ _ _ _; first | apply Z.then_normal | apply Z.then_exit | apply Z.block_exit)
      | (show W _ _ _ _ _ _; first | apply W.seq | apply W.region | apply W.ret | apply W.exit)
      | fail)
    exact Z.body2 Tryd.results7 rfl rfl fun m => ⟨Ext.at (by (exact extA)) m, _, (byt s).length, by rw [if_neg (by rw [hb]; simp), if_neg (by rw [hb]; simp), List.length_map], by rw [if_neg (by rw [hb]; simp)]; exact (Own.row encI_ok hO').ext ((Ext.refl _).at m)⟩

theorem ref_Read (s : ByteArray) (w : World) (hl : s.size ≤ 1048576) : Lt.Spec Tryd.prog 8 [.string s] w (ReadTo w (byt s)) := by
  have hln : (byt s).length = s.size := byt_len s
  refine Spec.of _ Tryd.func8 rfl Tryd.ntmps8 (by kernel_rfl) rfl ?_
  repeat' (first
    | (apply WL.lit (len := 0) tOk; exact rfl; exact rfl; exact rfl; exact rfl; exact rfl; exact rfl; (first | exact rfl | kernel_rfl | (simp [Instr.fill, catCells]; done)); exact rfl; intro gb w' hb hge hc hx; have hO0 := Own.of_block0 (enc := encI) (s := 1) hb hge)
    | (show WL _ _ _ _ _ _ _; first | apply WL.nil | (refine WL.au (k := ?_)))
    | (show Z _ _ _ _ _; apply Z.then_normal)
    | (show W _ _ _ _ _ _; first | apply W.seq | apply W.region | apply W.block)
    | fail)
  refine W.loopO s.size (fun k a' cp w' => k ≤ s.size ∧ (∀ (i : Nat) (c : UInt8), i < k → (byt s)[i]? = some c → 0 ≤ rdv c) ∧ Ext w w' ∧ Own 1 encI 3 w.heap.size w' a' cp (((byt s).take k).map rdv))
    (fun k a' cp => [(0, .string s), (4, .slice a' (((byt s).take k).map rdv).length cp), (5, .int .i64 k)]) (some ⟨gb, 0, none⟩) 0 ⟨by omega, fun i c h => by omega, hx, hO0⟩ (fun k a' cp w' h => h.1) (by repeat' first | exact trivial | (refine And.intro ?_ ?_) | exact rfl) ?_
  rintro k a' cp w' ⟨hk, hok, hx', hO'⟩
  by_cases hlt : k < s.size
  · obtain ⟨c, hc⟩ := getI (byt s) (show k < (byt s).length by omega)
    repeat' (first
      | (apply W.condKT; exact rfl; (focus (first | exact dec_true (by omega); done)))
      | (show WL _ _ _ _ _ _ _; first | apply WL.nil | (refine WL.au (k := ?_)))
      | (show Z _ _ _ _ _; apply Z.then_normal)
      | (show W _ _ _ _ _ _; first | apply W.seq | apply W.region | apply W.block | apply W.skip)
      | fail)
    refine W.loop1 3 (fun v => v ≤ 3) (fun v => [(0, .string s), (4, .slice a' (((byt s).take k).map rdv).length cp), (5, .int .i64 k), (6, .int .i64 (rdk c v (-1))), (7, .int .i64 v)]) (by omega) (fun k h => h) (by repeat' first | exact trivial | (refine And.intro ?_ ?_) | exact rfl) ?_
    rintro v hv3
    by_cases hv : v < 3
    · obtain ⟨d, hd⟩ := getI sig3 (show v < sig3.length from hv)
      have hd' : (byt (⟨#[48, 49, 120]⟩ : ByteArray))[((v : Nat) : Int).toNat]? = some d := hd
      have er := sig3_eq (c := c) hd (-1)
      by_cases hcd : c = d
      · repeat' (first
          | (apply W.condKT; exact rfl; (focus (first | exact dec_true (by omega) | exact dec_true (u8_eq.2 hcd); done)))
          | (apply QL.indexS tOk; exact rfl; exact rfl; exact rfl; exact rfl; exact rfl; exact rfl; omega; assumption)
          | (show WL _ _ _ _ _ _ _; first | apply WL.nil | (refine WL.au (k := ?_)))
          | (show QL _ _ _ _ _ _ _; first | apply QL.nil | (refine QL.au (k := ?_)))
          | (show Z _ _ _ _ _; first | apply Z.then_normal | apply Z.block_normal)
          | (show W _ _ _ _ _ _; first | apply W.seq | apply W.region | apply W.block | apply W.skip | (apply W.regionD tMix; kernel_rfl))
          | fail)
        all_goals (rw [show (v : Int) = rdk c (v + 1) (-1) by rw [er, if_pos hcd]]; exact Z.again1 (by omega) ⟨rfl, rfl, rfl, rfl, by rw [← show (v : Int) = rdk c (v + 1) (-1) by rw [er, if_pos hcd]]; exact ⟨rfl, trivial⟩⟩)
      · repeat' (first
          | (apply W.condKT; exact rfl; (focus (first | exact dec_true (by omega) | exact dec_false (fun q => hcd (u8_eq.1 q)); done)))
          | (apply W.condKF; exact rfl; (focus (first | exact dec_true (by omega) | exact dec_false (fun q => hcd (u8_eq.1 q)); done)))
          | (apply QL.indexS tOk; exact rfl; exact rfl; exact rfl; exact rfl; exact rfl; exact rfl; omega; assumption)
          | (show WL _ _ _ _ _ _ _; first | apply WL.nil | (refine WL.au (k := ?_)))
          | (show QL _ _ _ _ _ _ _; first | apply QL.nil | (refine QL.au (k := ?_)))
          | (show Z _ _ _ _ _; first | apply Z.then_normal | apply Z.block_normal)
          | (show W _ _ _ _ _ _; first | apply W.seq | apply W.region | apply W.block | apply W.skip | (apply W.regionD tMix; kernel_rfl))
          | fail)
        all_goals (rw [show rdk c v (-1) = rdk c (v + 1) (-1) by rw [er, if_neg hcd]]; exact Z.again1 (by omega) ⟨rfl, rfl, rfl, rfl, rfl, trivial⟩)
    · obtain rfl : v = 3 := by omega
      rw [rdk3]
      by_cases hr : rdv c < 0
      · have hb := badS_at hc hr
        repeat' (first
          | (apply W.condKT; exact rfl; (focus (first | exact dec_false (by omega) | exact dec_true hr; done)))
          | (apply W.condKF; exact rfl; (focus (first | exact dec_false (by omega) | exact dec_true hr; done)))
          | (show WL _ _ _ _ _ _ _; first | apply WL.nil | (refine WL.au (k := ?_)))
          | (show Z _ _ _ _ _; first | apply Z.then_normal | apply Z.then_exit | apply Z.block_exit | apply Z.then_ret | apply Z.block_ret)
          | (show W _ _ _ _ _ _; first | apply W.seq | apply W.region | apply W.ret | apply W.exit)
          | fail)
        exact Z.body2 Tryd.results8 rfl rfl fun m => ⟨Ext.at (by (exact extA)) m, none, 0, by rw [if_pos hb, if_pos hb]; rfl, by rw [if_pos hb]; exact Row.nil _ _ _ _⟩
      · have et : ((byt s).take k).map rdv ++ [rdv c] = ((byt s).take (k + 1)).map rdv := by rw [List.take_add_one, hc]; simp
        have hlk : (((byt s).take k).map rdv).length ≤ 1048576 := by rw [List.length_map, List.length_take]; omega
        repeat' (first
          | (apply W.condKF; exact rfl; (focus (first | exact dec_false (by omega); done)))
          | (apply WL.lit tOk; exact rfl; exact rfl; exact rfl; exact rfl; exact rfl; exact rfl; (first | exact rfl | kernel_rfl | (simp [Instr.fill, catCells]; done)); exact rfl; intro gb w' hb hge hc hx)
          | (apply WL.append1 tOk encI_ok; exact rfl; exact rfl; exact rfl; exact rfl; exact rfl; exact rfl; exact rfl; exact rfl; exact rfl; exact rfl; assumption; (exact extA); (first | exact rfl | (focus (simp only [List.length_set]; done)) | (focus (simp; done)) | (focus (simp [*]; done)) | omega | (focus (simp only [List.length_set]; omega))); assumption; (first | exact rfl | exact (rfl : encI (_, _) = _)); exact rfl; (exact extA); (first | omega | (simp; omega) | (simp at *; omega)); intro a' cap' w' hO hX' hU hF)
          | (show WL _ _ _ _ _ _ _; first | apply WL.nil | (refine WL.au (k := ?_)))
          | (show Z _ _ _ _ _; first | apply Z.then_normal | apply Z.block_normal | apply Z.then_exit | apply Z.block_exit)
          | (show W _ _ _ _ _ _; first | apply W.seq | apply W.region | apply W.skip | apply W.exit)
          | fail)
        rw [et] at hO ⊢
        exact Z.againO _ _ ⟨by omega, fun i d hi hd => (by
          by_cases hik : i < k
          · exact hok i d hik hd
          · obtain rfl : i = k := by omega
            rw [hc] at hd; obtain rfl := Option.some.inj hd; omega), (by (exact extA)), hO⟩ ⟨rfl, rfl, rfl, trivial⟩
  · obtain rfl : k = s.size := by omega
    rw [← hln, List.take_length] at hO'
    have hb : badS (byt s) = false := badS_none fun i c hi => hok i c (by have := lt_of_get hi; omega) hi
    repeat' (first
      | (apply W.condKF; exact rfl; (focus (first | exact dec_false (by omega); done)))
      | (show WL _ _ _ _ _ _ _; first | apply WL.nil | (refine WL.au (k := ?_)))
      | (show Z _ _ _ _ _; first | apply Z.then_normal | apply Z.then_exit | apply Z.block_exit)
      | (show W _ _ _ _ _ _; first | apply W.seq | apply W.region | apply W.ret | apply W.exit)
      | fail)
    exact Z.body2 Tryd.results8 rfl rfl fun m => ⟨Ext.at (by (exact extA)) m, a', cp, by rw [if_neg (by rw [hb]; simp), if_neg (by rw [hb]; simp), ← hln, List.take_length], by rw [if_neg (by rw [hb]; simp)]; exact (Own.row encI_ok hO').ext ((Ext.refl _).at m)⟩
end Go.Proofs.YtlcenenkloicjaaDoor
namespace Go.Proofs.YtlcenenkloicjaaDoor
open Go Go.Lt Go.RowKit
set_option linter.unusedVariables false
set_option linter.unusedSimpArgs false
set_option maxRecDepth 20000

theorem eq_snoc {α : Type} {a b : List α} {k : Nat} {x y : α} (h : ∀ i, i < k → a[i]? = b[i]?) (hx : a[k]? = some x) (hy : b[k]? = some y) (hxy : x = y) : ∀ i, i < k + 1 → a[i]? = b[i]? := by
  intro i hi
  by_cases hik : i < k
  · exact h i hik
  · obtain rfl : i = k := by omega
    rw [hx, hy, hxy]
theorem eq_all {α : Type} {a b : List α} {k : Nat} (h : ∀ i, i < k → a[i]? = b[i]?) (hl : a.length = b.length) (hk : a.length ≤ k) : a = b := by
  apply List.ext_getElem?
  intro i
  by_cases hi : i < k
  · exact h i hi
  · rw [List.getElem?_eq_none (by omega), List.getElem?_eq_none (by omega)]
theorem ne_at {α : Type} {a b : List α} {k : Nat} {x y : α} (hx : a[k]? = some x) (hy : b[k]? = some y) (hxy : ¬ x = y) : ¬ a = b := by
  rintro rfl
  rw [hx] at hy
  exact hxy (Option.some.inj hy)

theorem ref_Ints (aa ab : Option Addr) (ca cb : Nat) (la lb : List Int) (w : World) (Ra : Row 1 encI w aa la) (Rb : Row 1 encI w ab lb) : Still Tryd.prog 9 [.slice aa la.length ca, .slice ab lb.length cb] w (.bool (dec (la = lb))) := by
  have hla := Ra.len
  have hlb := Rb.len
  refine Spec.of _ Tryd.func9 rfl Tryd.ntmps9 (by kernel_rfl) rfl ?_
  by_cases hlen : la.length = lb.length
  · repeat' (first
      | (apply W.condKF; exact rfl; (focus (exact dec_false (by omega); done)))
      | (show WL _ _ _ _ _ _ _; first | apply WL.nil | (refine WL.au (k := ?_)))
      | (show Z _ _ _ _ _; apply Z.then_normal)
      | (show W _ _ _ _ _ _; first | apply W.seq | apply W.region | apply W.block | apply W.skip)
      | fail)
    refine W.loop1 la.length (fun k => k ≤ la.length ∧ ∀ i, i < k → la[i]? = lb[i]?) (fun k => [(0, .slice aa la.length ca), (1, .slice ab lb.length cb), (5, .int .i64 k)]) ⟨by omega, fun i hi => by omega⟩ (fun k h => h.1) ⟨rfl, rfl, rfl, trivial⟩ ?_
    rintro k ⟨hk, heq⟩
    by_cases hlt : k < la.length
    · obtain ⟨x, hx⟩ := getI la hlt
      obtain ⟨y, hy⟩ := getI lb (show k < lb.length by omega)
      repeat' (first
        | (apply W.condKT; exact rfl; (focus (exact dec_true (by omega); done)))
        | (show WL _ _ _ _ _ _ _; first | apply WL.nil | (refine WL.au (k := ?_)))
        | (show QL _ _ _ _ _ _ _; first | apply QL.nil | (refine QL.au (k := ?_)) | (apply QL.index tOk; exact rfl; exact rfl; exact rfl; exact rfl; exact rfl; exact rfl; exact rfl; exact rfl; assumption; (exact extA); exact rfl; omega; assumption; intro b off h; have hcc := h; first | (obtain ⟨h1, h2, h3, h4, h5, h6, _⟩ := h) | (obtain ⟨h1, h2, h3, _⟩ := h) | (obtain ⟨h1, h2, _⟩ := h) | (obtain ⟨h1, _⟩ := h)))
        | (show Z _ _ _ _ _; first | apply Z.then_normal | apply Z.block_normal | apply Z.then_ret | apply Z.block_ret)
        | (show W _ _ _ _ _ _; first | apply W.seq | apply W.region | apply W.block | apply W.skip | apply W.ret | (apply W.condD; exact rfl; all_goals intro _) | (apply W.regionD tMix; kernel_rfl))
        | fail)
      · exact Z.body1 Tryd.results9 rfl fun m => ⟨congrArg Value.bool (dec_false (ne_at hx hy (by assumption))).symm, m, rfl⟩
      · exact Z.again1 ⟨by omega, eq_snoc heq hx hy (by omega)⟩ ⟨rfl, rfl, rfl, trivial⟩
    · repeat' (first
        | (apply W.condKF; exact rfl; (focus (exact dec_false (by omega); done)))
        | (show WL _ _ _ _ _ _ _; first | apply WL.nil | (refine WL.au (k := ?_)))
        | (show Z _ _ _ _ _; first | apply Z.then_normal | apply Z.then_exit | apply Z.block_exit)
        | (show W _ _ _ _ _ _; first | apply W.seq | apply W.region | apply W.ret | apply W.exit)
        | fail)
      exact Z.body1 Tryd.results9 rfl fun m => ⟨congrArg Value.bool (dec_true (eq_all heq hlen (by omega))).symm, m, rfl⟩
  · repeat' (first
      | (apply W.condKT; exact rfl; (focus (exact dec_true (by omega); done)))
      | (show WL _ _ _ _ _ _ _; first | apply WL.nil | (refine WL.au (k := ?_)))
      | (show Z _ _ _ _ _; first | apply Z.then_normal | apply Z.then_ret)
      | (show W _ _ _ _ _ _; first | apply W.seq | apply W.region | apply W.ret)
      | fail)
    exact Z.body1 Tryd.results9 rfl fun m => ⟨congrArg Value.bool (dec_false (fun h => hlen (by rw [h]))).symm, m, rfl⟩

def badNode (i : Nat) (x : Int × Int) : Prop := 0 ≤ x.1 ∧ (2 * (i : Int) + 1 < x.1 ∨ x.2 < 0 ∨ 2 * (i : Int) + 1 < x.2)
def GoodNet (n : List (Int × Int)) : Prop := ∀ i x, n[i]? = some x → ¬ badNode i x
theorem GoodNet.gate {n : List (Int × Int)} (h : GoodNet n) {k : Nat} {x : Int × Int} (hx : n[k]? = some x) (h0 : 0 ≤ x.1) : x.1 ≤ 2 * k + 1 ∧ 0 ≤ x.2 ∧ x.2 ≤ 2 * k + 1 := by
  have := h k x hx; unfold badNode at this; omega
end Go.Proofs.YtlcenenkloicjaaDoor
namespace Go.Proofs.YtlcenenkloicjaaDoor
open Go Go.Lt Go.RowKit
set_option linter.unusedVariables false
set_option linter.unusedSimpArgs false
set_option maxRecDepth 20000

theorem ReadTo.bad {w w' : World} {s : List UInt8} {v : Value} (h : ReadTo w s v w') (hb : badS s = true) : Ext w w' ∧ ∃ a cap, v = .tuple #[.slice a ([] : List Int).length cap, .int .i64 2] ∧ Row 1 encI w' a ([] : List Int) := by
  obtain ⟨hx, a, cap, hv, R⟩ := h
  rw [if_pos hb] at R
  rw [if_pos hb, if_pos hb] at hv
  exact ⟨hx, a, cap, hv, R⟩
theorem ReadTo.ok {w w' : World} {s : List UInt8} {v : Value} (h : ReadTo w s v w') (hb : ¬ badS s = true) : Ext w w' ∧ ∃ a cap, v = .tuple #[.slice a (s.map rdv).length cap, .int .i64 0] ∧ Row 1 encI w' a (s.map rdv) := by
  obtain ⟨hx, a, cap, hv, R⟩ := h
  rw [if_neg hb] at R
  rw [if_neg hb, if_neg hb] at hv
  exact ⟨hx, a, cap, hv, R⟩
set_option maxHeartbeats 2000000 in
theorem law_TriTexts (a : Option Addr) (cap : Nat) (l : List Int) (s : ByteArray) (w : World) (R : Row 1 encI w a l) (hna : a = none → cap = 0) (hG : Cells w 0 0 sgW) : Pure Tryd.prog 3 [.slice a l.length cap, .string s] w (.bool true) := by
  refine Spec.of _ Tryd.func3 rfl Tryd.ntmps3 (by kernel_rfl) rfl ?_
  by_cases h1 : l.length ≤ 500
  · by_cases h2 : s.size ≤ 500
    · have hln : (byt s).length = s.size := byt_len s
      have hlm : ((byt s).map rdv).length ≤ 1048576 := by rw [List.length_map]; omega
      by_cases hb : badS (byt s) = true
      · repeat' (first
          | (apply WL.gT; exact rfl; exact rfl; (focus (first | exact dec_false (by omega) | exact dec_true (by omega) | exact dec_true rfl; done)))
          | (apply WL.gF; exact rfl; exact rfl; (focus (first | exact dec_false (by omega) | exact dec_true (by omega) | exact dec_true rfl; done)))
          | (apply W.condKF; exact rfl; (focus (first | exact dec_false (by omega) | exact dec_true (by omega) | exact dec_true rfl; done)))
          | (((show WL _ _ _ (⟨_, .call ⟨.value (.func 7), _, _⟩, _, _, _, _⟩ :: _) _ _ _); apply WL.call; exact rfl; exact rfl; exact rfl; exact rfl; exact tri_Read s _ (by omega) (hG.ext (by (exact extA))); rintro v' w2 q2; obtain ⟨hx2, a2, c2, rfl, R2⟩ := q2.bad hb))
          | (((show WL _ _ _ (⟨_, .call ⟨.value (.func 8), _, _⟩, _, _, _, _⟩ :: _) _ _ _); apply WL.call; exact rfl; exact rfl; exact rfl; exact rfl; exact ref_Read s _ (by omega); rintro v' w3 q3; obtain ⟨hx3, a3, c3, rfl, R3⟩ := q3.bad hb))
          | ((show WL _ _ _ (⟨_, .call ⟨.value (.func 9), _, _⟩, _, _, _, _⟩ :: _) _ _ _); apply WL.callS; exact rfl; exact rfl; exact rfl; exact rfl; exact ref_Ints _ _ _ _ _ _ _ (R2.ext (by (exact extA))) R3; (have K2 := fun (_ : True) => R2; clear R2 R3))
          | (apply WL.lit (len := 0) tOk; exact rfl; exact rfl; exact rfl; exact rfl; exact rfl; exact rfl; (first | exact rfl | kernel_rfl | (simp [Instr.fill, catCells]; done)); exact rfl; intro gb w' hb hge hc hx; have hO0 := Own.of_block0 (enc := encI) (s := 1) hb hge)
          | (apply WL.appendS tOk encI_ok; exact rfl; exact rfl; exact rfl; exact rfl; exact rfl; exact rfl; exact rfl; exact rfl; exact rfl; exact rfl; assumption; (exact extA); (first | exact rfl | (focus (simp only [List.length_set]; done)) | (focus (simp; done)) | (focus (simp [*]; done)) | omega | (focus (simp only [List.length_set]; omega))); assumption; (exact extA); (first | exact rfl | (focus (simp only [List.length_set]; done)) | (focus (simp; done)) | (focus (simp [*]; done)) | omega | (focus (simp only [List.length_set]; omega))); (first | assumption | (intro h; cases h) | exact Own.noneCap (by assumption)); exact rfl; (exact extA); (first | omega | (simp; omega) | (simp at *; omega)); intro a' cap' w' hO hX' hU hF)
          | ((show WL _ _ _ (⟨_, .call ⟨.value (.func 10), _, _⟩, _, _, _, _⟩ :: _) _ _ _); apply WL.callP; exact rfl; exact rfl; exact rfl; exact rfl; exact tri_Text _ _ l _ (Own.row encI_ok (by assumption)) (by omega) (hG.ext (by (exact extA))); intro w' hx)
          | ((show WL _ _ _ (⟨_, .call ⟨.value (.func 11), _, _⟩, _, _, _, _⟩ :: _) _ _ _); apply WL.callS; exact rfl; exact rfl; exact rfl; exact rfl; exact ref_Text _ _ l _ (R.ext (by (exact extA))) (by omega))
          | (apply WL.eqStr tOk; exact rfl; exact rfl; exact rfl; exact rfl; exact rfl; exact rfl)
          | ((show WL _ _ _ (⟨_, .call ⟨.value (.func 6), _, _⟩, _, _, _, _⟩ :: _) _ _ _); apply WL.callS; exact rfl; exact rfl; exact rfl; exact rfl; exact lives3 _)
          | (show WL _ _ _ _ _ _ _; first | apply WL.nil | (refine WL.au (k := ?_)) | (apply WL.guardF; exact rfl; exact rfl))
          | (show Z _ _ _ _ _; apply Z.then_normal)
          | (show W _ _ _ _ _ _; first | apply W.seq | apply W.region | apply W.skip | apply W.ret)
          | fail)
        all_goals exact Z.body1 Tryd.results3 rfl fun m => ⟨rfl, Ext.at (by (exact extA)) m⟩
      · have hes : (⟨((((byt s).map rdv)).map sgn).toArray⟩ : ByteArray) = s := by
          rw [map_sgn (by simpa using hb)]
          try (apply byt_inj; simp [byt])
        repeat' (first
          | (apply WL.gT; exact rfl; exact rfl; (focus (first | exact dec_false (by omega) | exact dec_true (by omega) | exact dec_true rfl | exact dec_true hes; done)))
          | (apply WL.gF; exact rfl; exact rfl; (focus (first | exact dec_false (by omega) | exact dec_true (by omega) | exact dec_true rfl | exact dec_true hes; done)))
          | (apply W.condKF; exact rfl; (focus (first | exact dec_false (by omega) | exact dec_true (by omega) | exact dec_true rfl | exact dec_true hes; done)))
          | (((show WL _ _ _ (⟨_, .call ⟨.value (.func 7), _, _⟩, _, _, _, _⟩ :: _) _ _ _); apply WL.call; exact rfl; exact rfl; exact rfl; exact rfl; exact tri_Read s _ (by omega) (hG.ext (by (exact extA))); rintro v' w2 q2; obtain ⟨hx2, a2, c2, rfl, R2⟩ := q2.ok hb))
          | (((show WL _ _ _ (⟨_, .call ⟨.value (.func 8), _, _⟩, _, _, _, _⟩ :: _) _ _ _); apply WL.call; exact rfl; exact rfl; exact rfl; exact rfl; exact ref_Read s _ (by omega); rintro v' w3 q3; obtain ⟨hx3, a3, c3, rfl, R3⟩ := q3.ok hb))
          | ((show WL _ _ _ (⟨_, .call ⟨.value (.func 9), _, _⟩, _, _, _, _⟩ :: _) _ _ _); apply WL.callS; exact rfl; exact rfl; exact rfl; exact rfl; exact ref_Ints _ _ _ _ _ _ _ (R2.ext (by (exact extA))) R3; (have K2 := fun (_ : True) => R2; clear R2 R3))
          | (apply WL.lit (len := 0) tOk; exact rfl; exact rfl; exact rfl; exact rfl; exact rfl; exact rfl; (first | exact rfl | kernel_rfl | (simp [Instr.fill, catCells]; done)); exact rfl; intro gb w' hb hge hc hx; have hO0 := Own.of_block0 (enc := encI) (s := 1) hb hge)
          | (apply WL.appendS tOk encI_ok; exact rfl; exact rfl; exact rfl; exact rfl; exact rfl; exact rfl; exact rfl; exact rfl; exact rfl; exact rfl; assumption; (exact extA); (first | exact rfl | (focus (simp only [List.length_set]; done)) | (focus (simp; done)) | (focus (simp [*]; done)) | omega | (focus (simp only [List.length_set]; omega))); assumption; (exact extA); (first | exact rfl | (focus (simp only [List.length_set]; done)) | (focus (simp; done)) | (focus (simp [*]; done)) | omega | (focus (simp only [List.length_set]; omega))); (first | assumption | (intro h; cases h) | exact Own.noneCap (by assumption)); exact rfl; (exact extA); (first | omega | (simp; omega) | (simp at *; omega)); intro a' cap' w' hO hX' hU hF)
          | ((show WL _ _ _ (⟨_, .call ⟨.value (.func 10), _, _⟩, _, _, _, _⟩ :: _) _ _ _); apply WL.callP; exact rfl; exact rfl; exact rfl; exact rfl; exact tri_Text _ _ l _ (Own.row encI_ok (by assumption)) (by omega) (hG.ext (by (exact extA))); intro w' hx)
          | ((show WL _ _ _ (⟨_, .call ⟨.value (.func 11), _, _⟩, _, _, _, _⟩ :: _) _ _ _); apply WL.callS; exact rfl; exact rfl; exact rfl; exact rfl; exact ref_Text _ _ l _ (R.ext (by (exact extA))) (by omega))
          | ((show WL _ _ _ (⟨_, .call ⟨.value (.func 10), _, _⟩, _, _, _, _⟩ :: _) _ _ _); apply WL.callP; exact rfl; exact rfl; exact rfl; exact rfl; exact tri_Text _ _ ((byt s).map rdv) _ ((K2 trivial).ext (by (exact extA))) hlm (hG.ext (by (exact extA))); intro w' hx)
          | (apply WL.eqStr tOk; exact rfl; exact rfl; exact rfl; exact rfl; exact rfl; exact rfl)
          | ((show WL _ _ _ (⟨_, .call ⟨.value (.func 6), _, _⟩, _, _, _, _⟩ :: _) _ _ _); apply WL.callS; exact rfl; exact rfl; exact rfl; exact rfl; exact lives3 _)
          | (show WL _ _ _ _ _ _ _; first | apply WL.nil | (refine WL.au (k := ?_)))
          | (show Z _ _ _ _ _; apply Z.then_normal)
          | (show W _ _ _ _ _ _; first | apply W.seq | apply W.region | apply W.skip | apply W.ret)
          | fail)
        all_goals exact Z.body1 Tryd.results3 rfl fun m => ⟨rfl, Ext.at (by (exact extA)) m⟩
    · repeat' (first
        | (apply WL.gF; exact rfl; exact rfl; (focus (first | exact dec_false (by omega) | exact dec_true (by omega); done)))
        | (apply W.condKT; exact rfl; (focus (first | exact dec_false (by omega) | exact dec_true (by omega); done)))
        | ((show WL _ _ _ (⟨_, .call ⟨.value (.func 6), _, _⟩, _, _, _, _⟩ :: _) _ _ _); apply WL.callS; exact rfl; exact rfl; exact rfl; exact rfl; exact lives3 _)
        | (show WL _ _ _ _ _ _ _; first | apply WL.nil | (refine WL.au (k := ?_)))
        | (show Z _ _ _ _ _; first | apply Z.then_normal | apply Z.then_ret)
        | (show W _ _ _ _ _ _; first | apply W.seq | apply W.region | apply W.ret)
        | fail)
      all_goals exact Z.body1 Tryd.results3 rfl fun m => ⟨rfl, Ext.at (by (exact extA)) m⟩
  · repeat' (first
      | (apply WL.gT; exact rfl; exact rfl; (focus (first | exact dec_false (by omega) | exact dec_true (by omega); done)))
      | ((show WL _ _ _ (⟨_, .call ⟨.value (.func 6), _, _⟩, _, _, _, _⟩ :: _) _ _ _); apply WL.callS; exact rfl; exact rfl; exact rfl; exact rfl; exact lives3 _)
      | (show WL _ _ _ _ _ _ _; first | apply WL.nil | (refine WL.au (k := ?_)) | (apply WL.guardF; exact rfl; exact rfl))
      | (show Z _ _ _ _ _; first | apply Z.then_normal | apply Z.then_ret)
      | (show W _ _ _ _ _ _; first | apply W.seq | apply W.region | apply W.ret | (apply W.condT; exact rfl))
      | fail)
    all_goals exact Z.body1 Tryd.results3 rfl fun m => ⟨rfl, Ext.at (by (exact extA)) m⟩
end Go.Proofs.YtlcenenkloicjaaDoor
namespace Go.Proofs.YtlcenenkloicjaaDoor
open Go Go.Lt Go.ChangeShapes Go.WideShapes Go.ChangeAt Go.RowKit
set_option linter.unusedVariables false
set_option linter.unusedSimpArgs false
set_option maxRecDepth 20000
open Go.ChangeMaps (open_string shut_string)
namespace triTexts
theorem own : ownKnob Tryd.prog.godebug = none := by kernel_rfl
theorem laidOut : laidOutB Tryd.prog = true := factLaid
theorem gN : Tryd.prog.globalNamed "latchet/tri.signs" = some 0 := by kernel_rfl
theorem gT : (Tryd.prog.globals[0]?).map (·.type) = some 46 := by kernel_rfl
theorem door_met (os : Os) (args : Array Value) : laidMetH Tryd.prog [("latchet/tri.signs", Rows.laid_latchet_tri_signs)] ((World.doorLaid Tryd.prog 19 os).forCall (fun _ _ => 0) ⟨#[], args, []⟩).memory :=
  laidMetH_of_parts3 (fuel := 8) (laidMet_of_run' 8 (by kernel_rfl) (by kernel_rfl)) (by kernel_rfl) (by kernel_rfl)
theorem of_laid {W : World} (h : laidMetH Tryd.prog [("latchet/tri.signs", Rows.laid_latchet_tri_signs)] W) : Cells W 0 0 (([48, 49, 120] : List Int).map (Value.int .u8)) := by
  rw [MakeChecks.laidMetH_plain _ _ _ (by kernel_rfl)] at h
  have hT := Lib.tabIs_of_head (k := .u8) (zs := [48, 49, 120]) gN gT Tryd.underlying46 Tryd.underlying5 (by kernel_rfl) (by kernel_rfl) h
  exact cells_tab (fun i hi => hT.cell gN i hi)
set_option maxRecDepth 100000 in
theorem lifted (os : Os) (started : os.Started) (H : Type) (enc : TypeId × Value → H) :
    ReturnsInHanded {} Tryd.checked os 3 .any (fun w args => (Rows.triTextsSpec.pre enc Tryd.prog Tryd.f3 [] false w args ∧ laidMetH Tryd.prog [("latchet/tri.signs", Rows.laid_latchet_tri_signs)] w) ∧ sizedMet enc Tryd.prog Tryd.f3 (OpenSpec.ofChange Rows.triTextsSpec) false w args) (Rows.triTextsSpec.post enc Tryd.prog Tryd.f3 false true false false) := by
  refine returnsInHanded_of_change_and (C := Tryd.checked) (X := fun w _ => laidMetH Tryd.prog [("latchet/tri.signs", Rows.laid_latchet_tri_signs)] w) (fun _ _ _ hh h => h.of_heap hh) own started (by kernel_rfl) Tryd.func3
    (ChangeSpec.witness_shaped (enc := enc) (C := Tryd.checked) (os := os) (X := fun w _ => laidMetH Tryd.prog [("latchet/tri.signs", Rows.laid_latchet_tri_signs)] w) false (World.doorLaid Tryd.prog 19 os) #[.slice none 0 0, .string ⟨#[]⟩] 8 rfl (World.shaped_of_RefB (by kernel_rfl) (by kernel_rfl)) (by kernel_rfl) (by kernel_rfl) (by kernel_rfl) (door_met os _)) ?_
  intro W base args ds gs before hval0 hW hcnd hsz hL _
  have hG := of_laid hL
  have hval : ∀ (j : Nat) t v, Tryd.f3.params[j]? = some t → args[j]? = some v → Value.okWide Tryd.prog W .any base t v := hval0
  have hW' := hW
  obtain ⟨p, q, hA0, hV, rfl, hfz, hnd⟩ := hW
  have hA : DataW.TrodAll enc Tryd.prog W 0 (fun _ => true) true Tryd.f3.params.toList args.toList ds p := hA0
  rw [Tryd.params3] at hA hval
  obtain ⟨v0, vs0, d0, ds0, p0, q0, hargs, rfl, rfl, h0, r0⟩ := trodAll_cons hA
  obtain ⟨v1, vs1, d1, ds1, p1, q1, rfl, rfl, rfl, h1, r1⟩ := trodAll_cons r0
  obtain ⟨rfl, rfl, rfl⟩ := trodAll_nil r1
  obtain rfl : args = #[v0, v1] := by cases args; simp_all
  obtain ⟨rfl, rfl⟩ := trodVars_none hV
  have k0 := h0
  have lt0 : ∀ x ∈ p0, x.block < W.heap.size := by obtain ⟨m, hm⟩ := k0; exact DataW.trod_lt m _ _ _ hm
  have k1 := h1
  have lt1 : ∀ x ∈ p1, x.block < W.heap.size := by obtain ⟨m, hm⟩ := k1; exact DataW.trod_lt m _ _ _ hm
  obtain ⟨a0, l0, cap0, rfl, hl0, hm0, hna0, R0, w0⟩ := row_of (s := 1) (reads_int Tryd.underlying3) (by kernel_rfl) Tryd.underlying22 (fun _ => rfl) (by decide) (hval 0 22 v0 rfl rfl) h0
  obtain ⟨s1, rfl, rfl, rfl, w1⟩ := open_string Tryd.underlying9 (hval 1 9 v1 rfl rfl) h1
  clear hA0 hval0
  refine (Spec.law (law_TriTexts a0 cap0 l0 s1 W R0 hna0 hG)).mono fun e W' ⟨he, bel⟩ => ?_
  subst he
  exact ⟨_, rfl, _, _, _, [], _, [], hW', trodAll_mk1 (shut_bool Tryd.underlying4 _), (trodAll_cons_mk (Below.trod laidOut (by kernel_rfl) (of_decide_eq_true (by kernel_rfl)) k0 bel lt0) (trodAll_cons_mk (Below.trod laidOut (by kernel_rfl) (of_decide_eq_true (by kernel_rfl)) k1 bel lt1) trodAll_mk0)), rfl, bel.frame _, fun h => by cases h⟩
theorem j0 : (Rows.triTextsRow.wf (OpenSpec.ofChange Rows.triTextsSpec)) = true := by kernel_rfl
theorem j3 : (Tryd.f3.params.all (Tryd.prog.readableRec ·)) = true := by kernel_rfl
theorem j4 : (namedTie Tryd.prog Rows.triTextsRow.named Rows.triTextsSpec.vars) = true := by kernel_rfl
theorem j5 : ((Rows.triTextsRow.stops == [])) = true := by kernel_rfl
theorem j7 : ((Rows.triTextsRow.knobs == [])) = true := by kernel_rfl
theorem j9 : ((Rows.triTextsRow.inPlace == Tryd.prog.inPlace 3)) = true := by kernel_rfl
theorem j10 : ((Rows.triTextsRow.unfollowed == Tryd.prog.unfollowed 3)) = true := by kernel_rfl
theorem j11 : ((Rows.triTextsRow.recurses == Tryd.prog.recurses 3)) = true := by kernel_rfl
theorem j12 : ((Rows.triTextsRow.named == Tryd.prog.varsNamed 3)) = true := by kernel_rfl
theorem j13 : ((Rows.triTextsRow.maps == (Tryd.f3.params.toList ++ Rows.triTextsSpec.plain.varTypes Tryd.prog).any (Tryd.prog.mapsRec ·))) = true := by kernel_rfl
theorem j14 : ((Rows.triTextsRow.ifaces == (Tryd.f3.params.toList ++ Rows.triTextsSpec.plain.varTypes Tryd.prog).any (Tryd.prog.ifacesRec ·))) = true := by kernel_rfl
theorem j15 : ((Rows.triTextsRow.mapsOut == Tryd.prog.mapsAmong Tryd.f3.resultTypes.toList)) = true := by kernel_rfl
theorem j16 : ((Rows.triTextsRow.loops == (Tryd.f3.params.toList ++ Rows.triTextsSpec.plain.varTypes Tryd.prog).any (Tryd.prog.loopsFrom ·))) = true := by kernel_rfl
theorem j17 : ((Rows.triTextsRow.wideKeys == (Tryd.f3.params.toList ++ Rows.triTextsSpec.plain.varTypes Tryd.prog ++ Tryd.f3.resultTypes.toList).any (Tryd.prog.wideKeysFrom ·))) = true := by kernel_rfl
theorem j18 : (Rows.triTextsSpec.vars.all (Tryd.prog.varReadable ·)) = true := by kernel_rfl
theorem j19 : (Tryd.f3.resultTypes.all (fun t => Tryd.prog.readableRec t && decide (t < Tryd.prog.types.size))) = true := by kernel_rfl
theorem j20 : ((Rows.triTextsRow.ifacesOut == Tryd.f3.resultTypes.toList.any (Tryd.prog.ifacesRec ·))) = true := by kernel_rfl
theorem j21 : ((Rows.triTextsRow.loopsOut == Tryd.f3.resultTypes.toList.any (Tryd.prog.loopsFrom ·))) = true := by kernel_rfl
theorem j22 : ((Rows.triTextsRow.plainKeys == Tryd.prog.plainKeys)) = true := by rw [show Rows.triTextsRow.plainKeys = Rows.triTextsRow.plainKeys by kernel_rfl]; exact factKeys
theorem j23 : (Rows.triTextsRow.shortTexts.isNone) = true := by kernel_rfl
theorem j26 : ((Rows.triTextsRow.lifted == Tryd.prog.liftsFinal)) = true := by rw [show Rows.triTextsRow.lifted = Rows.triTextsRow.lifted by kernel_rfl]; exact factLifts
theorem j27 : ((Tryd.prog.make == some Rows.triTextsRow.make)) = true := by rw [show Rows.triTextsRow.make = Rows.triTextsRow.make by kernel_rfl]; exact factMake
theorem j28 : ((Rows.triTextsRow.kinds == (if Rows.triTextsRow.domain.isEmpty then [] else Tryd.f3.params.toList.map fun t => match Tryd.prog.underlying t with | some (.int k) => some k | _ => none))) = true := by kernel_rfl
theorem j29 : ((Rows.triTextsRow.pinned == Rows.triTextsRow.pinnedBy)) = true := by kernel_rfl
theorem j30 : ((Rows.triTextsRow.veiled == (Tryd.f3.params.toList ++ Rows.triTextsSpec.plain.varTypes Tryd.prog ++ Tryd.f3.resultTypes.toList).any (Tryd.prog.veiledRec ·))) = true := by kernel_rfl
theorem j31 : (Rows.triTextsRow.veiledFits Tryd.prog Tryd.f3.params.toList (Tryd.f3.params.toList ++ Rows.triTextsSpec.plain.varTypes Tryd.prog ++ Tryd.f3.resultTypes.toList)) = true := by kernel_rfl
set_option maxRecDepth 100000 in
theorem closed : joinedFacts Tryd.checked.prog 3 Tryd.f3 Rows.triTextsSpec Rows.triTextsRow = true := by unfold joinedFacts; exact (band (band (band (band (band (band (band (band (band (band (band (band (band (band (band (band (band (band (band (band (band (band (band (band (band (band (band (band (band (band (band j0 factLaid) factMaps) j3) j4) j5) factStops) j7) factKnobs) j9) j10) j11) j12) j13) j14) j15) j16) j17) j18) j19) j20) j21) j22) j23) factHeard) factEnter) j26) j27) j28) j29) j30) j31)
theorem named : Tryd.checked.prog.funcNamed Rows.triTextsRow.func = some 3 := by kernel_rfl
theorem over : Rows.triTextsRow.holds Tryd.pinned (OpenSpec.ofChange Rows.triTextsSpec) :=
  OpenClaim.holds_of_wide 3 Tryd.f3 rfl rfl rfl rfl rfl rfl rfl ⟨rfl, rfl, rfl, rfl, rfl⟩ rfl rfl rfl rfl rfl named Tryd.func3 closed
    (of_decide_eq_true (by kernel_rfl)) (by unfold Func.isWrapper; first | (rw [if_pos (by decide +kernel)]; kernel_rfl) | (rw [if_neg (by decide +kernel)]; exact ⟨rfl, rfl⟩))
    (fun os started H enc _ => lifted os started H enc)
/-- The statement. -/
theorem proved : Rows.TriTextsCardSaid :=
  Claim7.holds_tied_plain_at .later [] [.data] true (true, "48c0deb9cac288eb0dd9f0fad882ac34a9a6e4b33cd5699ebdd31122410cfa4c") false
    over (fun _ h => by cases h) (by kernel_rfl) (fun _ h => by cases h) triTexts_row_tie rfl ⟨rfl, rfl⟩ (by kernel_rfl) rfl
    (fun f fn hf hfn => by
      obtain rfl : f = 3 := Option.some.inj (named.symm.trans hf) |>.symm
      obtain rfl : fn = Tryd.f3 := (Option.some.inj (Tryd.func3.symm.trans hfn)).symm
      exact ⟨by kernel_rfl, fun j t ht => by
        rw [Tryd.params3] at ht
        have hm : t ∈ [22, 9] := by simpa using Array.mem_of_getElem? ht
        have hall : ([22, 9].all fun u => !Tryd.prog.wantsStandIn u) = true := by kernel_rfl
        exact (show Tryd.prog.wantsStandIn t = false by simpa using List.all_eq_true.1 hall t hm)⟩)
    (by kernel_rfl)
end triTexts
end Go.Proofs.YtlcenenkloicjaaDoor
