/- Part 1 of what the claim UnrollMeans needs: lemmas and contracts, printed from longer texts. No conditions. -/
import Derived.Test.YteidpnpbfagaeaaRows
import Derived.Lib.SmallJoins
import Derived.KernelRfl
import Derived.WalkKit
import Derived.ProofKit
import Derived.Deep.Quiet
import Derived.Deep.LoopGhost
import Derived.StillTail
import Derived.Test.YteidpnpbfagaeaaProg
import Derived.OpenShut
import Derived.ShutString
import Derived.ChangeOld
import Derived.Deep.Slices
import Derived.SizedLaws
import Derived.Laws.StructEq
import Derived.Laws.Externs
import Derived.MapKept
import Derived.JoinedCond
namespace Go.Proofs.Yteidpnpbfagaeaa
open Go Go.ChangeShapes Go.WideShapes Go.ChangeAt Go.RowKit
set_option linter.unusedVariables false
set_option linter.unusedSimpArgs false
set_option maxRecDepth 20000
theorem band {a b : Bool} (h : a = true) (k : b = true) : (a && b) = true := by rw [h, k]; rfl
theorem factLaid : (laidOutB Try.prog) = true := by kernel_rfl
theorem factMaps : (mapsRowed Try.prog) = true := by kernel_rfl
theorem factStops : ((Try.prog.stops == [])) = true := by kernel_rfl
theorem factKnobs : ((Try.prog.stopKnobs == [])) = true := by kernel_rfl
theorem factKeys : ((Rows.liftAsksRow.plainKeys == Try.prog.plainKeys)) = true := by kernel_rfl
theorem factHeard : (Try.prog.stopsHeard) = true := by kernel_rfl
theorem factEnter : (Try.prog.mayEnter) = true := by kernel_rfl
theorem factLifts : ((Rows.liftAsksRow.lifted == Try.prog.liftsFinal)) = true := by kernel_rfl
theorem factMake : ((Try.prog.make == some Rows.liftAsksRow.make)) = true := by kernel_rfl
end Go.Proofs.Yteidpnpbfagaeaa
namespace Go.Lt
open Go.RowKit
set_option linter.unusedVariables false
set_option linter.unusedSimpArgs false

abbrev at' (w : World) (m : Nat) : World := { w with drawn := m }

abbrev Ext (w w' : World) : Prop := Below w.heap.size w w'

theorem Ext.refl (w : World) : Ext w w := Below.refl _ _
theorem Ext.trans {a b c : World} (h : Ext a b) (k : Ext b c) : Ext a c := Below.trans h (k.mono h.size)
theorem Ext.at {a b : World} (h : Ext a b) (m : Nat) : Ext a (at' b m) := ⟨h.os, h.tape, h.output, h.size, h.block⟩
theorem Ext.of_at {a b : World} {m : Nat} (h : Ext (at' a m) b) : Ext a b := ⟨h.os, h.tape, h.output, h.size, h.block⟩
theorem Ext.cell {a b : World} (h : Ext a b) {p : Addr} {v : Value} (hp : a.cell? p = some v) : b.cell? p = some v := by
 rw [← hp]; exact Below.cell h (World.block_lt_of_cell? _ _ hp)
theorem extA {a b : World} (h : Ext a b := by first | exact Ext.refl _ | assumption | exact Ext.trans (by assumption) (by assumption) | (focus (repeat (first | exact Ext.refl _ | assumption | (apply Ext.trans; rotate_left; assumption))); done) | (focus (repeat (first | exact Ext.refl _ | assumption | refine Ext.trans (by assumption) ?_)); done) | solve_by_elim (maxDepth := 8) [Ext.trans]) : Ext a b := h

noncomputable def dec (p : Prop) : Bool := @decide p (Classical.propDecidable p)
theorem dec_true {p : Prop} (h : p) : dec p = true := by unfold dec; exact @decide_eq_true p (Classical.propDecidable p) h
theorem dec_false {p : Prop} (h : ¬ p) : dec p = false := by unfold dec; exact @decide_eq_false p (Classical.propDecidable p) h
theorem of_dec {p : Prop} (h : dec p = true) : p := by by_cases hp : p; exact hp; rw [dec_false hp] at h; cases h
theorem of_dec_false {p : Prop} (h : dec p = false) : ¬ p := fun hp => by rw [dec_true hp] at h; cases h
theorem dec_decide (p : Prop) [Decidable p] : dec p = decide p := by by_cases h : p <;> simp [h, dec_true, dec_false]
theorem dec_congr {p q : Prop} (h : p ↔ q) : dec p = dec q := by rw [propext h]

abbrev Env := List (Nat × Value)

def get : Env → Nat → Option Value
 | [], _ => none
 | (k, v) :: r, t => bif Nat.beq k t then some v else get r t

def ev (e : Env) : Operand → Option Value
 | .tmp t => get e t
 | .const v => some v
 | .global g => some (.pointer (some ⟨g, 0, none⟩))
 | .func f => some (.func (.func f) #[] #[])

structure Fit (N : Nat) (e : Env) (a : Act) : Prop where
 size : a.tmps.size = N
 defers : a.defers = []
 slots : ∀ t v, get e t = some v → a.tmps[t]? = some v

theorem Fit.eval {N : Nat} {e : Env} {a : Act} (h : Fit N e a) {o : Operand} {v : Value} (hv : ev e o = some v) : a.eval o = v := by
 cases o with
 | tmp t => have := h.slots t v hv; simp [Act.eval, Array.getD_eq_getD_getElem?, this]
 | const c => simpa [ev, Act.eval] using hv
 | global g => simpa [ev, Act.eval] using hv
 | func f => simpa [ev, Act.eval] using hv

theorem get_cons {k : Nat} {v : Value} {r : Env} {t : Nat} : get ((k, v) :: r) t = if k = t then some v else get r t := by
 show (bif Nat.beq k t then some v else get r t) = _
 by_cases h : k = t
 ·subst h; simp
 ·have : Nat.beq k t = false := by
   cases hb : Nat.beq k t with
   | false => rfl
   | true => exact absurd (Nat.eq_of_beq_eq_true hb) h
  simp [this, h]

theorem Fit.put {N : Nat} {e : Env} {a : Act} (h : Fit N e a) {d : Nat} (hd : d < N) (v : Value) : Fit N ((d, v) :: e) (a.put (some d) v) := by
 refine ⟨by simp [Act.put, h.size], h.defers, fun t u hu => ?_⟩
 rw [get_cons] at hu
 by_cases hdt : d = t
 ·subst hdt
  rw [if_pos rfl] at hu
  simp only [Option.some.injEq] at hu
  subst hu
  simp [Act.put, Array.getElem?_setIfInBounds, h.size, hd]
 ·rw [if_neg hdt] at hu
  have := h.slots t u hu
  simp [Act.put, Array.getElem?_setIfInBounds, hdt, this]

theorem Fit.shadow {N : Nat} {e : Env} {a : Act} (h : Fit N e a) {d : Nat} {v : Value} (hd : get e d = some v) : Fit N ((d, v) :: e) a := by
 refine ⟨h.size, h.defers, fun t u hu => ?_⟩
 rw [get_cons] at hu
 by_cases hdt : d = t
 ·subst hdt; rw [if_pos rfl] at hu; simp only [Option.some.injEq] at hu; subst hu; exact h.slots _ _ hd
 ·rw [if_neg hdt] at hu; exact h.slots _ _ hu

def Sub : Env → Env → Prop
 | [], _ => True
 | (t, v) :: r, e => get e t = some v ∧ Sub r e

theorem Fit.sub {N : Nat} {e e' : Env} {a : Act} (h : Fit N e a) : ∀ {e' : Env}, Sub e' e → Fit N e' a
 | [], _ => ⟨h.size, h.defers, fun t v hv => by cases hv⟩
 | (k, u) :: r, hs => by
  have ih := Fit.sub (e := e) (e' := r) h hs.2
  refine ⟨h.size, h.defers, fun t v hv => ?_⟩
  rw [get_cons] at hv
  by_cases hkt : k = t
  ·subst hkt; rw [if_pos rfl] at hv; simp only [Option.some.injEq] at hv; subst hv; exact h.slots _ _ hs.1
  ·rw [if_neg hkt] at hv; exact ih.slots _ _ hv

structure Z (N : Nat) (Q : Exit → Act → World → Prop) (x : Exit) (e : Env) (w : World) : Prop where
 go : ∀ a m, Fit N e a → Q x a (at' w m)

structure W (P : Program) (N : Nat) (c : Code) (e : Env) (w : World) (Q : Exit → Act → World → Prop) : Prop where
 go : ∀ a m, Fit N e a → c.wp P Q a (at' w m)

structure WL (P : Program) (N : Nat) (ops : Array Oper) (l : List Oper) (e : Env) (w : World) (Q : Exit → Act → World → Prop) : Prop where
 go : ∀ a m, Fit N e a → wpList P ops Q l a (at' w m)

section rules
variable {P : Program} {N : Nat} {e : Env} {w : World} {Q : Exit → Act → World → Prop}

theorem W.sub {c : Code} (e' : Env) (hs : Sub e' e) (h : W P N c e' w Q) : W P N c e w Q := ⟨fun a m hf => h.go a m (hf.sub (e := e) (e' := e') hs)⟩

theorem W.seq {x y : Code} (h : W P N x e w (Exit.then (y.wp P Q) Q)) : W P N (.seq x y) e w Q := ⟨fun a m hf => wp_seq (h.go a m hf)⟩
theorem W.block {id : Nat} {c : Code} (h : W P N c e w (Exit.inBlock id Q)) : W P N (.block id c) e w Q := ⟨fun a m hf => wp_block (h.go a m hf)⟩
theorem W.skip (h : Z N Q .normal e w) : W P N .skip e w Q := ⟨fun a m hf => wp_skip (h.go a m hf)⟩
theorem W.ret (h : Z N Q .ret e w) : W P N .ret e w Q := ⟨fun a m hf => wp_ret (h.go a m hf)⟩
theorem W.exit {id : Nat} (h : Z N Q (.exit id) e w) : W P N (.exit id) e w Q := ⟨fun a m hf => wp_exit (h.go a m hf)⟩

theorem W.condT {c : Operand} {x y : Code} (hc : ev e c = some (.bool true)) (h : W P N x e w Q) : W P N (.cond c x y) e w Q :=
 ⟨fun a m hf => wp_cond_true (hf.eval hc) (h.go a m hf)⟩
theorem W.condF {c : Operand} {x y : Code} (hc : ev e c = some (.bool false)) (h : W P N y e w Q) : W P N (.cond c x y) e w Q :=
 ⟨fun a m hf => wp_cond_false (hf.eval hc) (h.go a m hf)⟩
theorem W.condD {c : Operand} {x y : Code} {p : Prop} (hc : ev e c = some (.bool (dec p))) (ht : p → W P N x e w Q) (hf' : ¬ p → W P N y e w Q) : W P N (.cond c x y) e w Q := by
 by_cases hp : p
 ·exact W.condT (by rw [hc, dec_true hp]) (ht hp)
 ·exact W.condF (by rw [hc, dec_false hp]) (hf' hp)
theorem W.condN {c : Operand} {x y : Code} {p : Prop} (hc : ev e c = some (.bool (!dec p))) (ht : ¬ p → W P N x e w Q) (hf' : p → W P N y e w Q) : W P N (.cond c x y) e w Q := by
 by_cases hp : p
 ·exact W.condF (by rw [hc, dec_true hp]; rfl) (hf' hp)
 ·exact W.condT (by rw [hc, dec_false hp]; rfl) (ht hp)
theorem W.condB {c : Operand} {x y : Code} {b : Bool} (hc : ev e c = some (.bool b)) (ht : b = true → W P N x e w Q) (hf' : b = false → W P N y e w Q) : W P N (.cond c x y) e w Q := by
 cases b
 ·exact W.condF hc (hf' rfl)
 ·exact W.condT hc (ht rfl)

theorem Z.then_normal {y : Code} (h : W P N y e w Q) : Z N (Exit.then (y.wp P Q) Q) .normal e w := ⟨h.go⟩
theorem Z.then_exit {K : Act → World → Prop} {id : Nat} (h : Z N Q (.exit id) e w) : Z N (Exit.then K Q) (.exit id) e w := ⟨h.go⟩
theorem Z.then_ret {K : Act → World → Prop} (h : Z N Q .ret e w) : Z N (Exit.then K Q) .ret e w := ⟨h.go⟩
theorem Z.block_normal {id : Nat} (h : Z N Q .normal e w) : Z N (Exit.inBlock id Q) .normal e w := ⟨h.go⟩
theorem Z.block_ret {id : Nat} (h : Z N Q .ret e w) : Z N (Exit.inBlock id Q) .ret e w := ⟨h.go⟩
theorem Z.block_exit {id : Nat} (h : Z N Q .normal e w) : Z N (Exit.inBlock id Q) (.exit id) e w := ⟨fun a m hf => by
 simp only [Exit.inBlock, if_true]; exact h.go a m hf⟩
theorem W.region {id : Nat} {l : List Oper} (h : WL P N l.toArray l e w Q) : W P N (.region id l.toArray false) e w Q :=
 ⟨fun a m hf => wp_region_lit (h.go a m hf)⟩

theorem WL.nil {ops : Array Oper} (h : Z N Q .normal e w) : WL P N ops [] e w Q := ⟨fun a m hf => wpList_nil (h.go a m hf)⟩

theorem W.loop {σ : Type} {c : Code} (I : σ → Prop) (E : σ → Env) (U : σ → World) (μ : σ → Nat)
  (s0 : σ) (h0 : I s0) (hE : Sub (E s0) e) (hU : U s0 = w)
  (round : ∀ s, I s → W P N c (E s) (U s) (Exit.then (fun a w' => ∃ s', I s' ∧ μ s' < μ s ∧ Fit N (E s') a ∧ ∃ m, w' = at' (U s') m) Q)) :
  W P N (.loop c) e w Q := by
 refine ⟨fun a m hf => ?_⟩
 subst hU
 refine wp_loop_ghost (fun k a' w' => ∃ s n, I s ∧ μ s = k ∧ Fit N (E s) a' ∧ w' = at' (U s) n) (μ s0) ⟨s0, m, h0, rfl, hf.sub (e := e) (e' := E s0) hE, rfl⟩ ?_
 rintro k a' w' ⟨s, n, h1, rfl, h3, rfl⟩
 refine wp_mono ((round s h1).go a' n h3) fun x a'' w'' hq => ?_
 cases x with
 | normal => obtain ⟨s', k1, k2, k3, n', k4⟩ := hq; exact ⟨μ s', k2, s', n', k1, rfl, k3, k4⟩
 | _ => exact hq

theorem Z.again {σ : Type} {I : σ → Prop} {E : σ → Env} {U : σ → World} {μ : σ → Nat} {k : Nat} (s' : σ) (h1 : I s') (h2 : μ s' < k) (h3 : Sub (E s') e) (h4 : U s' = w) :
  Z N (Exit.then (fun a w' => ∃ s', I s' ∧ μ s' < k ∧ Fit N (E s') a ∧ ∃ m, w' = at' (U s') m) Q) .normal e w :=
 ⟨fun a m hf => ⟨s', h1, h2, hf.sub (e := e) (e' := E s') h3, m, by rw [h4]⟩⟩

theorem W.cut {σ : Type} {x y : Code} (I : σ → Prop) (E : σ → Env) (U : σ → World)
  (h : W P N x e w (Exit.then (fun a w' => ∃ s, I s ∧ Fit N (E s) a ∧ ∃ m, w' = at' (U s) m) Q))
  (k : ∀ s, I s → W P N y (E s) (U s) Q) : W P N (.seq x y) e w Q := ⟨fun a m hf => by
 refine wp_seq (wp_mono (h.go a m hf) fun ex a' w' hq => ?_)
 cases ex with
 | normal => obtain ⟨s, h1, h2, n, h3⟩ := hq; subst h3; exact (k s h1).go a' n h2
 | _ => exact hq⟩

theorem Z.cut {σ : Type} {I : σ → Prop} {E : σ → Env} {U : σ → World} (s : σ) (h1 : I s) (h3 : Sub (E s) e) (h4 : U s = w) :
  Z N (Exit.then (fun a w' => ∃ s, I s ∧ Fit N (E s) a ∧ ∃ m, w' = at' (U s) m) Q) .normal e w :=
 ⟨fun a m hf => ⟨s, h1, hf.sub (e := e) (e' := E s) h3, m, by rw [h4]⟩⟩
end rules

def Callable (P : Program) (f : FuncId) : Prop := ∃ fn, P.funcs[f]? = some fn ∧ fn.body ≠ none ∧ fn.name ≠ "runtime.NumGoroutine"

structure Spec (P : Program) (f : FuncId) (args : List Value) (w : World) (R : Value → World → Prop) : Prop where
 callable : Callable P f
 go : ∀ m, Calls P f args.toArray (at' w m) fun x w' => ∃ v, x = .returned v ∧ R v w'

theorem Spec.mono {P : Program} {f : FuncId} {args : List Value} {w : World} {R R' : Value → World → Prop} (h : Spec P f args w R) (k : ∀ v w', R v w' → R' v w') : Spec P f args w R' :=
 ⟨h.1, fun m => (h.2 m).mono fun _ _ ⟨v, hx, hr⟩ => ⟨v, hx, k _ _ hr⟩⟩

theorem Callable.run {P : Program} {f : FuncId} (h : Callable P f) (args : Array Value) (w : World) : (callFunc f args).run P w = .ok (.enter f args) w := by
 obtain ⟨fn, h1, h2, h3⟩ := h
 simp [callFunc, program, Sem.run, h1, h2, h3]

def entry : Nat → List Value → Env
 | _, [] => []
 | i, v :: r => (i, v) :: entry (i + 1) r

theorem get_entry (args : List Value) : ∀ (i t : Nat) (v : Value), get (entry i args) t = some v → i ≤ t ∧ args[t - i]? = some v := by
 induction args with
 | nil => intro i t v h; cases h
 | cons x r ih =>
  intro i t v h
  simp only [entry] at h
  rw [get_cons] at h
  by_cases hit : i = t
  ·subst hit; rw [if_pos rfl] at h; simpa using h
  ·rw [if_neg hit] at h
   obtain ⟨h1, h2⟩ := ih (i + 1) t v h
   refine ⟨by omega, ?_⟩
   have : t - i = (t - (i + 1)) + 1 := by omega
   rw [this]; simpa using h2

theorem Spec.of {P : Program} {f : FuncId} {fn : Func} {c : Code} {args : List Value} {w : World} {R : Value → World → Prop} (N : Nat)
  (hf : P.funcs[f]? = some fn) (hb : fn.body = some c) (hN : fn.ntmps = N) (hname : (fn.name == "runtime.NumGoroutine") = false) (ha : Nat.ble args.length N = true)
  (h : W P N c (entry 0 args) w (bodyPost P fn fun x w' => ∃ v, x = .returned v ∧ R v w')) : Spec P f args w R := by
 refine ⟨⟨fn, hf, by rw [hb]; simp, by simpa using hname⟩, fun m => ?_⟩
 refine calls_of_wp hf hb (h.go _ m ⟨?_, rfl, ?_⟩)
 ·have := Nat.le_of_ble_eq_true ha
  simp [hN]; omega
 ·intro t v hv
  obtain ⟨_, h2⟩ := get_entry args 0 t v hv
  simp only [Nat.sub_zero] at h2
  have hl : t < args.length := (List.getElem?_eq_some_iff.1 h2).1
  rw [Array.getElem?_append_left (by simpa using hl)]
  simpa using h2

theorem Z.body1 {P : Program} {fn : Func} {N : Nat} {e : Env} {w : World} {R : Value → World → Prop} {t : Nat} {v : Value} (hr : fn.results = #[.tmp t]) (hv : get e t = some v) (hR : ∀ m, R v (at' w m)) :
  Z N (bodyPost P fn fun x w' => ∃ v, x = .returned v ∧ R v w') .ret e w := ⟨fun a m hf =>
 bodyPost_ret (v := v) (by rw [results_tmp hr]; have := hf.slots _ _ hv; simp [Array.getD_eq_getD_getElem?, this]) hf.defers ⟨v, rfl, hR m⟩⟩

theorem Z.body2 {P : Program} {fn : Func} {N : Nat} {e : Env} {w : World} {R : Value → World → Prop} {t u : Nat} {v x : Value} (hr : fn.results = #[.tmp t, .tmp u]) (hv : get e t = some v) (hx : get e u = some x) (hR : ∀ m, R (.tuple #[v, x]) (at' w m)) :
  Z N (bodyPost P fn fun x w' => ∃ v, x = .returned v ∧ R v w') .ret e w := ⟨fun a m hf =>
 bodyPost_ret (v := .tuple #[v, x]) (by rw [results_tmp2 hr]; have h1 := hf.slots _ _ hv; have h2 := hf.slots _ _ hx; simp [Array.getD_eq_getD_getElem?, h1, h2]) hf.defers ⟨_, rfl, hR m⟩⟩

theorem Z.body0 {P : Program} {fn : Func} {N : Nat} {e : Env} {w : World} {R : Value → World → Prop} (hr : fn.results = #[]) (hR : ∀ m, R (.tuple #[]) (at' w m)) :
  Z N (bodyPost P fn fun x w' => ∃ v, x = .returned v ∧ R v w') .ret e w := ⟨fun a m hf =>
 bodyPost_ret (v := .tuple #[]) (by rw [results_none hr]) hf.defers ⟨_, rfl, hR m⟩⟩
theorem Z.body0n {P : Program} {fn : Func} {N : Nat} {e : Env} {w : World} {R : Value → World → Prop} (hr : fn.results = #[]) (hR : ∀ m, R (.tuple #[]) (at' w m)) :
  Z N (bodyPost P fn fun x w' => ∃ v, x = .returned v ∧ R v w') .normal e w := ⟨fun a m hf =>
 bodyPost_end (v := .tuple #[]) (by rw [results_none hr]) hf.defers ⟨_, rfl, hR m⟩⟩
end Go.Lt
namespace Go.Lt
open Go.RowKit
set_option linter.unusedVariables false
set_option linter.unusedSimpArgs false

structure TI where
 desc : TypeDesc
 size : Nat
 bytes : Nat
 zero : Value

abbrev Tab := List (Nat × TI)

def tget : Tab → Nat → Option TI
 | [], _ => none
 | (k, v) :: r, t => bif Nat.beq k t then some v else tget r t

def TI.Ok (P : Program) (t : Nat) (i : TI) : Prop := P.underlying t = some i.desc ∧ (P.info? t).map (fun j => (j.size, j.bytes, j.zero)) = some (i.size, i.bytes, some i.zero)

def OkTab (P : Program) : Tab → Prop
 | [] => True
 | (t, i) :: r => i.Ok P t ∧ OkTab P r

theorem OkTab.at {P : Program} : ∀ {T : Tab} {t : Nat} {i : TI}, OkTab P T → tget T t = some i → i.Ok P t
 | (k, v) :: r, t, i, h, hg => by
  unfold tget at hg
  cases hb : Nat.beq k t with
  | true =>
   rw [hb] at hg; simp only [cond_true, Option.some.injEq] at hg; subst hg
   rw [← Nat.eq_of_beq_eq_true hb]; exact h.1
  | false => rw [hb] at hg; exact OkTab.at h.2 hg

theorem TI.Ok.info {P : Program} {t : Nat} {i : TI} (h : i.Ok P t) : ∃ j, P.info? t = some j ∧ j.size = i.size ∧ j.bytes = i.bytes ∧ j.zero = some i.zero := by
 obtain ⟨j, hj, hjj⟩ := Option.map_eq_some_iff.1 h.2
 simp only [Prod.mk.injEq] at hjj
 exact ⟨j, hj, hjj.1, hjj.2.1, hjj.2.2⟩

def isAggD : TypeDesc → Bool
 | .struct _ | .array _ _ => true
 | _ => false

section runs
variable {P : Program}
theorem run_underlying' {t : Nat} {i : TI} (h : i.Ok P t) (w : World) : (underlying t).run P w = .ok i.desc w := by
 simp [underlying, program, Sem.run, h.1]
theorem run_typeInfo' {t : Nat} {j : TypeInfo} (h : P.info? t = some j) (w : World) : (typeInfo t).run P w = .ok j w := by
 simp [typeInfo, program, Sem.run, h]
theorem run_sizeOf' {t : Nat} {i : TI} (h : i.Ok P t) (w : World) : (sizeOf t).run P w = .ok i.size w := by
 obtain ⟨j, h1, h2, _⟩ := h.info
 simp [sizeOf, run_typeInfo' h1, h2]
theorem run_isAgg' {t : Nat} {i : TI} (h : i.Ok P t) (w : World) : (isAgg t).run P w = .ok (isAggD i.desc) w := by
 simp only [isAgg, Sem.run_bind, run_underlying' h, Result.andThen_ok]
 cases i.desc <;> rfl
theorem run_zeroValue' {t : Nat} {i : TI} (h : i.Ok P t) (w : World) : (zeroValue t).run P w = .ok i.zero w := by
 obtain ⟨j, h1, _, _, h4⟩ := h.info
 simp [zeroValue, run_typeInfo' h1, h4]
end runs

def Yields (P : Program) (e : Env) (o : Oper) (v : Value) : Prop := ∀ (ρ : Operand → Value), (∀ x u, ev e x = some u → ρ x = u) → ∀ w, (execOp ρ o).run P w = .ok (.value v) w

def YieldsAt (P : Program) (e : Env) (w : World) (o : Oper) (v : Value) : Prop := ∀ (ρ : Operand → Value), (∀ x u, ev e x = some u → ρ x = u) → ∀ m, (execOp ρ o).run P (at' w m) = .ok (.value v) (at' w m)

theorem Yields.at {P : Program} {e : Env} {w : World} {o : Oper} {v : Value} (h : Yields P e o v) : YieldsAt P e w o v := fun ρ hρ m => h ρ hρ _

noncomputable def cmpv (op : BinOp) (a b : Int) : Option Value :=
 match op with
 | .eql => some (.bool (dec (a = b)))
 | .neq => some (.bool (dec (a ≠ b)))
 | .lss => some (.bool (dec (a < b)))
 | .leq => some (.bool (dec (a ≤ b)))
 | .gtr => some (.bool (dec (b < a)))
 | .geq => some (.bool (dec (b ≤ a)))
 | _ => none

def arith (op : BinOp) (k : IntKind) (a b : Int) : Option Value :=
 match op with
 | .add => some (.int k (k.wrap (a + b)))
 | .sub => some (.int k (k.wrap (a - b)))
 | .mul => some (.int k (k.wrap (a * b)))
 | .and => some (.int k (k.wrap (BitVec.ofInt k.bits a &&& BitVec.ofInt k.bits b).toNat))
 | .or => some (.int k (k.wrap (BitVec.ofInt k.bits a ||| BitVec.ofInt k.bits b).toNat))
 | .xor => some (.int k (k.wrap (BitVec.ofInt k.bits a ^^^ BitVec.ofInt k.bits b).toNat))
 | .andNot => some (.int k (k.wrap (BitVec.ofInt k.bits a &&& ~~~ BitVec.ofInt k.bits b).toNat))
 | _ => none

def kindEq : IntKind → IntKind → Bool
 | .i8, .i8 | .i16, .i16 | .i32, .i32 | .i64, .i64 | .u8, .u8 | .u16, .u16 | .u32, .u32 | .u64, .u64 => true
 | _, _ => false
theorem kindEq_eq : ∀ {j k : IntKind}, kindEq j k = true → j = k := by intro j k; cases j <;> cases k <;> simp [kindEq]

noncomputable def pbin (op : BinOp) : Value → Value → Option Value
  | .int k a, .int k' b =>
    bif kindEq k k' then
      (match cmpv op a b with
       | some v => some v
       | none => arith op k a b)
    else none
  | .bool a, .bool b =>
    (match op with
     | .eql => some (.bool (dec (a = b)))
     | .neq => some (.bool (dec (a ≠ b)))
     | _ => none)
  | _, _ => none

def isBoolD : TypeDesc → Bool | .bool => true | _ => false

theorem run_binOp_int (P : Program) (op : BinOp) (t : TypeId) (k : IntKind) (a b : Int) (v : Value) (h : pbin op (.int k a) (.int k b) = some v) (w : World) :
  (binOp op t (.int k a) (.int k b)).run P w = .ok v w := by
 have hk : kindEq k k = true := by cases k <;> rfl
 simp only [pbin, hk, cond_true] at h
 cases op <;> simp only [cmpv, arith, Option.some.injEq, reduceCtorEq] at h <;> subst h <;>
  simp [binOp, Op.intArith, Op.intCmp, Op.intBits, Sem.run, pure, dec_decide] <;> (try rfl) <;>
  (try (by_cases hab : a = b <;> simp [hab, bne]))

theorem eqGuard_int (P : Program) (op : BinOp) (t : TypeId) (x y : Operand) (k j : IntKind) (a b : Int) (w : World) : (eqGuard op t x y (.int k a) (.int j b)).run P w = .ok () w := by
 unfold eqGuard; split <;> simp
theorem eqGuard_bool (P : Program) (op : BinOp) (t : TypeId) (x y : Operand) (a b : Bool) (w : World) : (eqGuard op t x y (.bool a) (.bool b)).run P w = .ok () w := by
 unfold eqGuard; split <;> simp

def isBoolT (T : Tab) (t : TypeId) : Bool :=
 match tget T t with
 | some i => isBoolD i.desc
 | none => false

theorem run_binOp_bool {P : Program} {T : Tab} (hT : OkTab P T) (op : BinOp) (t : TypeId) (a b : Bool) (v : Value) (ht : isBoolT T t = true) (h : pbin op (.bool a) (.bool b) = some v) (w : World) :
  (binOp op t (.bool a) (.bool b)).run P w = .ok v w := by
 unfold isBoolT at ht
 split at ht
 ·rename_i i hi
  have ho := hT.at hi
  have hd : i.desc = .bool := by cases hd : i.desc <;> rw [hd] at ht <;> simp [isBoolD] at ht <;> rfl
  have hr : ∀ w, (Op.equal t (.bool a) (.bool b)).run P w = .ok (a == b) w := by
   intro w
   have hu := run_underlying' ho
   rw [hd] at hu
   have hmx : Op.maxDepth = 9999 + 1 := rfl
   unfold Op.equal
   rw [hmx, Op.equalIn]
   simp only [Sem.run_bind, hu, Result.andThen_ok]
   rfl
  cases op <;> simp only [pbin, Option.some.injEq, reduceCtorEq] at h <;> subst h <;> simp [binOp, hr, dec_decide] <;> cases a <;> cases b <;> rfl
 ·cases ht

def puno : UnOp → Value → Option Value
 | .not, .bool b => some (.bool (!b))
 | _, _ => none

def fieldOf (T : Tab) (s f : Nat) : Option (Nat × TI) :=
  match tget T s with
  | some i =>
    (match i.desc with
     | .struct fs =>
       (match fs[f]? with
        | some fd =>
          (match tget T fd.type with
           | some j => some (fd.offset, j)
           | none => none)
        | none => none)
     | _ => none)
  | none => none

def lenv (T : Tab) (t : Nat) (v : Value) : Option Value :=
  match v with
  | .slice _ n _ =>
    (match tget T t with
     | some i => (match i.desc with | .slice _ => some (.int .i64 n) | _ => none)
     | none => none)
  | .string s =>
    (match tget T t with
     | some i => (match i.desc with | .string => some (.int .i64 s.size) | _ => none)
     | none => none)
  | _ => none

def evs (e : Env) : List Operand → Option (List Value)
  | [] => some []
  | x :: r =>
    (match ev e x with
     | some v =>
       (match evs e r with
        | some vs => some (v :: vs)
        | none => none)
     | none => none)

def roundsOff : BinOp → IntKind → Bool
 | .add, .i64 => true
 | .sub, .i64 => true
 | .mul, .i64 => true
 | _, _ => false

def nthv : List Value → Nat → Option Value
 | [], _ => none
 | v :: _, 0 => some v
 | _ :: r, n + 1 => nthv r n
theorem nthv_eq (l : List Value) (n : Nat) : l[n]? = nthv l n := by
 induction l generalizing n with
 | nil => simp [nthv]
 | cons v r ih => cases n <;> simp [nthv, ih]

noncomputable def pev (T : Tab) (e : Env) : Op → Option Value
  | .move x => ev e x
  | .assign x => ev e x
  | .pick c a b =>
    (match ev e c with
     | some (.bool c) => bif c then ev e a else ev e b
     | _ => none)
  | .binOp op t x y _ =>
    (match ev e x with
     | some (.int k a) =>
       (match ev e y with
        | some (.int j b) => bif roundsOff op k then none else pbin op (.int k a) (.int j b)
        | _ => none)
     | some (.bool a) =>
       (match ev e y with
        | some (.bool b) => bif isBoolT T t then pbin op (.bool a) (.bool b) else none
        | _ => none)
     | _ => none)
  | .unOp op _ x =>
    (match ev e x with
     | some v => puno op v
     | none => none)
  | .convert s d x =>
    (match ev e x with
     | some (.int _ n) =>
       (match tget T s with
        | some i =>
          (match i.desc with
           | .int _ =>
             (match tget T d with
              | some j => (match j.desc with | .int k => some (.int k (k.wrap n)) | _ => none)
              | none => none)
           | _ => none)
        | none => none)
     | _ => none)
  | .fieldAddr s x f =>
    (match ev e x with
     | some (.pointer (some ⟨b, off, none⟩)) =>
       (match fieldOf T s f with
        | some (o, j) => bif Nat.beq j.size 0 then none else some (.pointer (some ⟨b, off + o, none⟩))
        | none => none)
     | _ => none)
  | .field s x f =>
    (match ev e x with
     | some (.agg cs) =>
       (match fieldOf T s f with
        | some (o, j) => bif isAggD j.desc then some (.agg (cs.extract o (o + j.size))) else nthv cs.toList o
        | none => none)
     | _ => none)
  | .extract x i =>
    (match ev e x with
     | some (.tuple ⟨vs⟩) => nthv vs i
     | _ => none)
  | .call { callee := .builtin .len, args := ⟨[x]⟩, argTypes := ⟨[t]⟩ } =>
    (match ev e x with
     | some v => lenv T t v
     | none => none)
  | .makeFunc fn ⟨first⟩ ⟨captured⟩ =>
    (match evs e first with
     | some vs =>
       (match evs e captured with
        | some us => some (.func fn vs.toArray us.toArray)
        | none => none)
     | none => none)
  | _ => none

theorem evs_map {e : Env} {ρ : Operand → Value} (hρ : ∀ x u, ev e x = some u → ρ x = u) : ∀ {l : List Operand} {vs : List Value}, evs e l = some vs → l.map ρ = vs
 | [], vs, h => by simp [evs] at h; simp [h]
 | x :: r, vs, h => by
  unfold evs at h
  split at h
  ·rename_i v hv
   split at h
   ·rename_i us hus
    simp only [Option.some.injEq] at h; subst h
    simp [hρ _ _ hv, evs_map hρ hus]
   ·cases h
  ·cases h

theorem Addr_add_none (b off n : Nat) : (⟨b, off, none⟩ : Addr).add n = ⟨b, off + n, none⟩ := by
 unfold Addr.add; split <;> simp_all

theorem pev_yields {P : Program} {T : Tab} (hT : OkTab P T) {e : Env} {d : Option Tmp} {op : Op} {tt : TypeId} {ps : String} {af : Array Edge} {g : Option (Nat × Bool)} {v : Value}
  (h : pev T e op = some v) : Yields P e ⟨d, op, tt, ps, af, g⟩ v := by
 intro ρ hρ w
 unfold pev at h
 split at h
 ·simp [execOp, hρ _ _ h]
 ·simp [execOp, hρ _ _ h]
 ·split at h
  ·rename_i c a b _ c' hc
   cases c' <;> simp only [cond_true, cond_false] at h <;> simp [execOp, hρ _ _ hc, hρ _ _ h, asBool]
  ·cases h
 ·split at h
  ·rename_i op0 t0 x0 y0 ty0 _ k a hx
   split at h
   ·rename_i j b hy
    have h : pbin op0 (.int k a) (.int j b) = some v := by
     revert h
     cases roundsOff op0 k <;> simp
    have hk : k = j := by
     simp only [pbin] at h
     cases hb : kindEq k j with
     | true => exact kindEq_eq hb
     | false => rw [hb] at h; cases h
    subst hk
    simp [execOp, hρ _ _ hx, hρ _ _ hy, eqGuard_int, run_binOp_int P _ _ k a b v h]
   ·cases h
  ·rename_i op' t x y ty _ a hx
   split at h
   ·rename_i b hy
    cases hb : isBoolT T t with
    | true =>
     rw [hb] at h; simp only [cond_true] at h
     simp [execOp, hρ _ _ hx, hρ _ _ hy, eqGuard_bool, run_binOp_bool hT _ _ a b v hb h]
    | false => rw [hb] at h; cases h
   ·cases h
  ·cases h
 ·split at h
  ·rename_i x _ u hx
   unfold puno at h
   split at h
   ·simp only [Option.some.injEq] at h; subst h; simp [execOp, hρ _ _ hx, Op.unary]
   ·cases h
  ·cases h
 ·split at h
  ·rename_i s d x _ k n hx
   split at h
   ·rename_i i hi
    split at h
    ·rename_i ki hdi
     split at h
     ·rename_i j hj
      split at h
      ·rename_i kj hdj
       simp only [Option.some.injEq] at h; subst h
       have h1 := run_underlying' (hT.at hi); rw [hdi] at h1
       have h2 := run_underlying' (hT.at hj); rw [hdj] at h2
       simp [execOp, hρ _ _ hx, convert, h1, h2, Conv.intToInt]
      ·cases h
     ·cases h
    ·cases h
   ·cases h
  ·cases h
 ·split at h
  ·rename_i s x f _ b off hx
   split at h
   ·rename_i o j hf
    cases hz : Nat.beq j.size 0 with
    | true => rw [hz] at h; cases h
    | false =>
     rw [hz] at h; simp only [cond_false, Option.some.injEq] at h; subst h
     unfold fieldOf at hf
     split at hf
     ·rename_i i hi
      split at hf
      ·rename_i fs hd
       split at hf
       ·rename_i fd hfd
        split at hf
        ·rename_i j' hj
         simp only [Option.some.injEq, Prod.mk.injEq] at hf
         obtain ⟨rfl, rfl⟩ := hf
         have h1 := run_underlying' (hT.at hi); rw [hd] at h1
         have h2 := run_sizeOf' (hT.at hj)
         have hz' : j'.size ≠ 0 := fun hh => by rw [hh] at hz; cases hz
         simp [execOp, hρ _ _ hx, Instr.fieldAt, h1, hfd, Instr.sureAddr, fieldPlace, h2, hz', Addr_add_none]
        ·cases hf
       ·cases hf
      ·cases hf
     ·cases hf
   ·cases h
  ·cases h
 ·split at h
  ·rename_i s x f _ cs hx
   split at h
   ·rename_i o j hf
    unfold fieldOf at hf
    split at hf
    ·rename_i i hi
     split at hf
     ·rename_i fs hd
      split at hf
      ·rename_i fd hfd
       split at hf
       ·rename_i j' hj
        simp only [Option.some.injEq, Prod.mk.injEq] at hf
        obtain ⟨rfl, rfl⟩ := hf
        have h1 := run_underlying' (hT.at hi); rw [hd] at h1
        have h2 := run_sizeOf' (hT.at hj)
        have h3 := run_isAgg' (hT.at hj)
        cases hz : isAggD j'.desc with
        | true =>
         rw [hz] at h h3; simp only [cond_true, Option.some.injEq] at h; subst h
         simp [execOp, hρ _ _ hx, Instr.field, h1, hfd, asAgg, part, h2, h3]
        | false =>
         rw [hz] at h h3; simp only [cond_false] at h
         rw [← nthv_eq, Array.getElem?_toList] at h
         simp [execOp, hρ _ _ hx, Instr.field, h1, hfd, asAgg, part, h2, h3, h]
       ·cases hf
      ·cases hf
     ·cases hf
    ·cases hf
   ·cases h
  ·cases h
 ·split at h
  ·rename_i x i _ vs hx
   rw [← nthv_eq] at h
   simp [execOp, hρ _ _ hx, Instr.extract, h]
  ·cases h
 ·split at h
  ·rename_i x t _ u hx
   unfold lenv at h
   split at h
   ·split at h
    ·rename_i i hi
     split at h
     ·rename_i el hd
      simp only [Option.some.injEq] at h; subst h
      have h1 := run_underlying' (hT.at hi); rw [hd] at h1
      simp [execOp, resolve, invoke, builtin, hρ _ _ hx, Builtin.len_, h1, goInt]
     ·cases h
    ·cases h
   ·split at h
    ·rename_i i hi
     split at h
     ·rename_i hd
      simp only [Option.some.injEq] at h; subst h
      have h1 := run_underlying' (hT.at hi); rw [hd] at h1
      simp [execOp, resolve, invoke, builtin, hρ _ _ hx, Builtin.len_, h1, goInt]
     ·cases h
    ·cases h
   ·cases h
  ·cases h
 ·split at h
  ·rename_i first captured _ vs hvs
   split at h
   ·rename_i us hus
    simp only [Option.some.injEq] at h; subst h
    simp [execOp, Instr.makeFunc, evs_map hρ hvs, evs_map hρ hus]
   ·cases h
  ·cases h
 ·cases h

end Go.Lt
namespace Go.Lt
open Go.RowKit
set_option linter.unusedVariables false
set_option linter.unusedSimpArgs false

def dstAt : List Oper → Nat → Option Nat
 | [], _ => none
 | o :: _, 0 => o.dst
 | _ :: r, j + 1 => dstAt r j

theorem dstAt_eq (l : List Oper) (j : Nat) : (l.toArray[j]?).bind (·.dst) = dstAt l j := by
 induction l generalizing j with
 | nil => simp [dstAt]
 | cons o r ih =>
  cases j with
  | zero => simp [dstAt]
  | succ j => have := ih j; simpa [dstAt] using this

def gate (ops : List Oper) (e : Env) : Option (Nat × Bool) → Option Bool
  | none => some true
  | some (j, b) =>
    (match dstAt ops j with
     | some d =>
       (match get e d with
        | some (.bool c) => some (bif c then b else !b)
        | some (.tuple _) => some false
        | _ => none)
     | none => none)

theorem gate_wanted {N : Nat} {ops : List Oper} {e : Env} {a : Act} (h : Fit N e a) {o : Oper} {r : Bool} (hg : gate ops e o.guard = some r) : Region.wanted o (yielded ops.toArray a.tmps) = r := by
 unfold Region.wanted
 unfold gate at hg
 split at hg
 ·rename_i hgd; rw [hgd]; simpa using hg
 ·rename_i j b hgd
  rw [hgd]
  simp only
  unfold yielded
  rw [dstAt_eq]
  split at hg
  ·rename_i d hd
   rw [hd]
   split at hg
   ·rename_i c hc
    simp only [Option.some.injEq] at hg
    simp only [Option.bind_some, h.slots _ _ hc]
    cases c <;> cases b <;> simp at hg <;> subst hg <;> rfl
   ·rename_i x hc
    simp only [Option.some.injEq] at hg; subst hg
    simp only [Option.bind_some, h.slots _ _ hc]
    rfl
   ·cases hg
  ·cases hg

abbrev Same (w : World) : World → Prop := fun w' => ∃ m, w' = at' w m

def YieldsIn (P : Program) (e : Env) (C : World → Prop) (o : Oper) (v : Value) : Prop := ∀ (ρ : Operand → Value), (∀ x u, ev e x = some u → ρ x = u) → ∀ w, C w → (execOp ρ o).run P w = .ok (.value v) w

theorem Yields.in {P : Program} {e : Env} {C : World → Prop} {o : Oper} {v : Value} (h : Yields P e o v) : YieldsIn P e C o v := fun ρ hρ w _ => h ρ hρ w

section seq
variable {P : Program} {N : Nat} {e : Env} {w : World} {Q : Exit → Act → World → Prop} {ops : List Oper} {l : List Oper}

theorem WL.guardF {d : Nat} {op : Op} {tt : TypeId} {ps : String} {af : Array Edge} {g : Option (Nat × Bool)} (hg : gate ops e g = some false) (hd : Nat.blt d N = true)
  (k : WL P N ops.toArray l ((d, undef) :: e) w Q) : WL P N ops.toArray (⟨some d, op, tt, ps, af, g⟩ :: l) e w Q := by
 refine ⟨fun a m hf => ?_⟩
 unfold wpList
 rw [if_neg (by rw [gate_wanted hf (o := ⟨some d, op, tt, ps, af, g⟩) hg]; simp)]
 exact k.go _ m (hf.put (by simpa [Nat.blt_eq] using hd) undef)

theorem WL.step {d : Nat} {op : Op} {tt : TypeId} {ps : String} {af : Array Edge} {g : Option (Nat × Bool)} {v : Value} (hg : gate ops e g = some true) (hd : Nat.blt d N = true)
  (h : YieldsIn P e (Same w) ⟨some d, op, tt, ps, af, g⟩ v) (k : WL P N ops.toArray l ((d, v) :: e) w Q) : WL P N ops.toArray (⟨some d, op, tt, ps, af, g⟩ :: l) e w Q := by
 refine ⟨fun a m hf => ?_⟩
 unfold wpList
 rw [if_pos (by rw [gate_wanted hf (o := ⟨some d, op, tt, ps, af, g⟩) hg])]
 refine .inl ?_
 unfold Oper.wp
 rw [h a.eval (fun x u hx => hf.eval hx) _ ⟨m, rfl⟩]
 exact k.go _ m (hf.put (by simpa [Nat.blt_eq] using hd) v)

theorem WL.split {d : Nat} {b : Bool} (hd : get e d = some (.bool b)) (ht : b = true → WL P N ops.toArray l ((d, .bool true) :: e) w Q) (hf : b = false → WL P N ops.toArray l ((d, .bool false) :: e) w Q) : WL P N ops.toArray l e w Q := by
 refine ⟨fun a m h => ?_⟩
 cases b
 ·exact (hf rfl).go a m (h.shadow hd)
 ·exact (ht rfl).go a m (h.shadow hd)
theorem WL.call {d : Nat} {f : FuncId} {args : List Operand} {ts : Array TypeId} {tt : TypeId} {ps : String} {af : Array Edge} {g : Option (Nat × Bool)} {c : Operand} {us vs : List Value} {R : Value → World → Prop}
  (hg : gate ops e g = some true) (hd : Nat.blt d N = true) (hc : ev e c = some (.func (.func f) #[] us.toArray)) (hv : evs e args = some vs)
  (h : Spec P f (vs ++ us) w R) (k : ∀ v w', R v w' → WL P N ops.toArray l ((d, v) :: e) w' Q) :
  WL P N ops.toArray (⟨some d, .call ⟨.value c, args.toArray, ts⟩, tt, ps, af, g⟩ :: l) e w Q := by
 refine ⟨fun a m hf => ?_⟩
 unfold wpList
 rw [if_pos (by rw [gate_wanted hf (o := ⟨some d, .call ⟨.value c, args.toArray, ts⟩, tt, ps, af, g⟩) hg])]
 refine .inl ?_
 unfold Oper.wp
 have hrun : (execOp a.eval ⟨some d, .call ⟨.value c, args.toArray, ts⟩, tt, ps, af, g⟩).run P (at' w m) = .ok (.enter f (vs ++ us).toArray) (at' w m) := by
  have h1 := evs_map (ρ := a.eval) (fun x u hx => hf.eval hx) hv
  have HC := h.1
  simp [execOp, resolve, hf.eval hc, Deferred.ofValue, invoke, HC.run, h1]
 rw [hrun]
 refine (h.2 m).mono ?_
 rintro x w' ⟨v, rfl, hR⟩
 exact (k v w' hR).go _ w'.drawn (hf.put (by simpa [Nat.blt_eq] using hd) v)

end seq

structure QL (P : Program) (N : Nat) (C : World → Prop) (ops : Array Oper) (l : List Oper) (e : Env) (Q : Exit → Act → World → Prop) : Prop where
 go : ∀ a, Fit N e a → wpQuiet P ops C (fun a' => ∀ w', C w' → Q .normal a' w') l a

section quiet
variable {P : Program} {N : Nat} {e : Env} {w : World} {Q : Exit → Act → World → Prop} {ops : List Oper} {l : List Oper} {C : World → Prop}

theorem W.regionD {id : Nat} {l : List Oper} (hm : P.follows .mixedOrders = true) (hB : Region.lexB .any l.toArray = true) (h : QL P N (Same w) l.toArray l e Q) : W P N (.region id l.toArray true) e w Q := by
 refine ⟨fun a m hf => ?_⟩
 refine wp_region_quiet (C := Same w) hm hB ⟨m + 1, rfl⟩ ?_
 simpa using h.go a hf

theorem W.regionX {id : Nat} {l : List Oper} (hm : P.follows .mixedOrders = true) (hB : Region.lexB .any l.toArray = true) (h : QL P N (Ext w) l.toArray l e Q) : W P N (.region id l.toArray true) e w Q := by
 refine ⟨fun a m hf => ?_⟩
 refine wp_region_quiet (C := Ext w) hm hB ((Ext.refl w).at (m + 1)) ?_
 simpa using h.go a hf

theorem QL.nil {ops : Array Oper} (h : Z N Q .normal e w) : QL P N (Same w) ops [] e Q := by
 refine ⟨fun a hf w' ⟨m, hw⟩ => ?_⟩
 subst hw; exact h.go a m hf
theorem QL.nilX {ops : Array Oper} (h : ∀ w', Ext w w' → Z N Q .normal e w') : QL P N (Ext w) ops [] e Q := by
 refine ⟨fun a hf w' hw => ?_⟩
 exact (h w' hw).go a w'.drawn hf

theorem QL.guardF {d : Nat} {op : Op} {tt : TypeId} {ps : String} {af : Array Edge} {g : Option (Nat × Bool)} (hg : gate ops e g = some false) (hd : Nat.blt d N = true)
  (k : QL P N C ops.toArray l ((d, undef) :: e) Q) : QL P N C ops.toArray (⟨some d, op, tt, ps, af, g⟩ :: l) e Q := by
 refine ⟨fun a hf => ?_⟩
 unfold wpQuiet
 rw [if_neg (by rw [gate_wanted hf (o := ⟨some d, op, tt, ps, af, g⟩) hg]; simp)]
 exact k.go _ (hf.put (by simpa [Nat.blt_eq] using hd) undef)

theorem QL.step {d : Nat} {op : Op} {tt : TypeId} {ps : String} {af : Array Edge} {g : Option (Nat × Bool)} {v : Value} (hg : gate ops e g = some true) (hd : Nat.blt d N = true)
  (h : YieldsIn P e C ⟨some d, op, tt, ps, af, g⟩ v) (k : QL P N C ops.toArray l ((d, v) :: e) Q) : QL P N C ops.toArray (⟨some d, op, tt, ps, af, g⟩ :: l) e Q := by
 refine ⟨fun a hf => ?_⟩
 unfold wpQuiet
 rw [if_pos (by rw [gate_wanted hf (o := ⟨some d, op, tt, ps, af, g⟩) hg])]
 refine ⟨v, fun w hw => ?_, k.go _ (hf.put (by simpa [Nat.blt_eq] using hd) v)⟩
 unfold Oper.quietAt
 rw [h a.eval (fun x u hx => hf.eval hx) w hw]
 exact ⟨rfl, rfl⟩

theorem QL.split {d : Nat} {b : Bool} (hd : get e d = some (.bool b)) (ht : b = true → QL P N C ops.toArray l ((d, .bool true) :: e) Q) (hf : b = false → QL P N C ops.toArray l ((d, .bool false) :: e) Q) : QL P N C ops.toArray l e Q := by
 refine ⟨fun a h => ?_⟩
 cases b
 ·exact (hf rfl).go a (h.shadow hd)
 ·exact (ht rfl).go a (h.shadow hd)
theorem QL.call {d : Nat} {f : FuncId} {args : List Operand} {ts : Array TypeId} {tt : TypeId} {ps : String} {af : Array Edge} {g : Option (Nat × Bool)} {c : Operand} {us vs : List Value} {v : Value}
  (hg : gate ops e g = some true) (hd : Nat.blt d N = true) (hc : ev e c = some (.func (.func f) #[] us.toArray)) (hv : evs e args = some vs)
  (h : ∀ w, C w → Spec P f (vs ++ us) w (fun u w' => u = v ∧ C w')) (k : QL P N C ops.toArray l ((d, v) :: e) Q) :
  QL P N C ops.toArray (⟨some d, .call ⟨.value c, args.toArray, ts⟩, tt, ps, af, g⟩ :: l) e Q := by
 refine ⟨fun a hf => ?_⟩
 unfold wpQuiet
 rw [if_pos (by rw [gate_wanted hf (o := ⟨some d, .call ⟨.value c, args.toArray, ts⟩, tt, ps, af, g⟩) hg])]
 refine ⟨v, fun w hw => ?_, k.go _ (hf.put (by simpa [Nat.blt_eq] using hd) v)⟩
 unfold Oper.quietAt
 have hrun : (execOp a.eval ⟨some d, .call ⟨.value c, args.toArray, ts⟩, tt, ps, af, g⟩).run P w = .ok (.enter f (vs ++ us).toArray) w := by
  have h1 := evs_map (ρ := a.eval) (fun x u hx => hf.eval hx) hv
  have HC := (h w hw).1
  simp [execOp, resolve, hf.eval hc, Deferred.ofValue, invoke, HC.run, h1]
 rw [hrun]
 refine ⟨rfl, ((h w hw).2 w.drawn).mono ?_⟩
 rintro x w' ⟨u, rfl, rfl, hC⟩
 exact ⟨rfl, hC⟩
end quiet

abbrev Pure (P : Program) (f : FuncId) (args : List Value) (w : World) (v : Value) : Prop := Spec P f args w fun u w' => u = v ∧ Ext w w'
abbrev Still (P : Program) (f : FuncId) (args : List Value) (w : World) (v : Value) : Prop := Spec P f args w fun u w' => u = v ∧ Same w w'

theorem Still.pure {P : Program} {f : FuncId} {args : List Value} {w : World} {v : Value} (h : Still P f args w v) : Pure P f args w v :=
 Spec.mono h fun _ _ ⟨h1, m, h2⟩ => ⟨h1, by subst h2; exact (Ext.refl w).at m⟩

theorem quiet_ext {P : Program} {f : FuncId} {args : List Value} {w : World} {v : Value} (h : ∀ w', Ext w w' → Pure P f args w' v) : ∀ w', Ext w w' → Spec P f args w' (fun u w'' => u = v ∧ Ext w w'') :=
 fun w' hw => Spec.mono (h w' hw) fun _ _ ⟨h1, h2⟩ => ⟨h1, hw.trans h2⟩
theorem quiet_same {P : Program} {f : FuncId} {args : List Value} {w : World} {v : Value} (h : ∀ w', Same w w' → Still P f args w' v) : ∀ w', Same w w' → Spec P f args w' (fun u w'' => u = v ∧ Same w w'') :=
 fun w' hw => Spec.mono (h w' hw) fun _ _ ⟨h1, m, h2⟩ => ⟨h1, by obtain ⟨n, hn⟩ := hw; subst hn; exact ⟨m, h2⟩⟩
end Go.Lt
namespace Go.Lt
open Go.RowKit
set_option linter.unusedVariables false
set_option linter.unusedSimpArgs false

class Cls (C : World → Prop) (w : outParam World) : Prop where
 keeps : ∀ w', C w' → Ext w w'
instance (w : World) : Cls (Same w) w := ⟨fun _ ⟨m, h⟩ => by subst h; exact (Ext.refl w).at m⟩
instance (w : World) : Cls (Ext w) w := ⟨fun _ h => h⟩

theorem Yields.bin {P : Program} {e : Env} {d : Option Tmp} {op : BinOp} {t ty : TypeId} {x y : Operand} {tt : TypeId} {ps : String} {af : Array Edge} {g : Option (Nat × Bool)} {k : IntKind} {a b : Int} {v : Value}
  (hx : ev e x = some (.int k a)) (hy : ev e y = some (.int k b)) (h : pbin op (.int k a) (.int k b) = some v) : Yields P e ⟨d, .binOp op t x y ty, tt, ps, af, g⟩ v := by
 intro ρ hρ w
 simp [execOp, hρ _ _ hx, hρ _ _ hy, eqGuard_int, run_binOp_int P op t k a b v h]

theorem YieldsIn.at {P : Program} {e : Env} {w : World} {o : Oper} {v : Value} (h : YieldsIn P e (Same w) o v) : YieldsAt P e w o v := fun ρ hρ m => h ρ hρ _ ⟨m, rfl⟩

structure SL (P : Program) (N : Nat) (ops : Array Oper) (l : List Oper) (e : Env) (w : World) (K : Act → World → Prop) : Prop where
 go : ∀ a m, Fit N e a → wpStill P ops (at' w m) (fun a' => K a' (at' w m)) l a

def cutAt : Nat → List Oper → Option (List Oper × List Oper)
  | 0, l => some ([], l)
  | _ + 1, [] => none
  | n + 1, o :: r =>
    (match cutAt n r with
     | some (p, t) => some (o :: p, t)
     | none => none)

theorem cutAt_eq : ∀ {n : Nat} {l p t : List Oper}, cutAt n l = some (p, t) → l.take n = p ∧ l.drop n = t
 | 0, l, p, t, h => by simp only [cutAt, Option.some.injEq, Prod.mk.injEq] at h; simp [h.1.symm, h.2]
 | n + 1, [], p, t, h => by cases h
 | n + 1, o :: r, p, t, h => by
  unfold cutAt at h
  split at h
  ·rename_i p' t' hc
   simp only [Option.some.injEq, Prod.mk.injEq] at h
   obtain ⟨rfl, rfl⟩ := h
   have := cutAt_eq hc
   simp [this.1, this.2]
  ·cases h

section still
variable {P : Program} {N : Nat} {e : Env} {w : World} {Q : Exit → Act → World → Prop} {K : Act → World → Prop} {ops : List Oper} {l : List Oper}

theorem SL.nil {tail : List Oper} {ops : Array Oper} (h : WL P N ops tail e w Q) : SL P N ops [] e w (fun a w' => wpList P ops Q tail a w') := ⟨fun a m hf => h.go a m hf⟩

theorem SL.guardF {d : Nat} {op : Op} {tt : TypeId} {ps : String} {af : Array Edge} {g : Option (Nat × Bool)} (hg : gate ops e g = some false) (hd : Nat.blt d N = true)
  (k : SL P N ops.toArray l ((d, undef) :: e) w K) : SL P N ops.toArray (⟨some d, op, tt, ps, af, g⟩ :: l) e w K := by
 refine ⟨fun a m hf => ?_⟩
 unfold wpStill
 rw [if_neg (by rw [gate_wanted hf (o := ⟨some d, op, tt, ps, af, g⟩) hg]; simp)]
 exact k.go _ m (hf.put (by simpa [Nat.blt_eq] using hd) undef)

theorem SL.step {d : Nat} {op : Op} {tt : TypeId} {ps : String} {af : Array Edge} {g : Option (Nat × Bool)} {v : Value} (hg : gate ops e g = some true) (hd : Nat.blt d N = true)
  (h : YieldsIn P e (Same w) ⟨some d, op, tt, ps, af, g⟩ v) (k : SL P N ops.toArray l ((d, v) :: e) w K) : SL P N ops.toArray (⟨some d, op, tt, ps, af, g⟩ :: l) e w K := by
 refine ⟨fun a m hf => ?_⟩
 unfold wpStill
 rw [if_pos (by rw [gate_wanted hf (o := ⟨some d, op, tt, ps, af, g⟩) hg])]
 unfold Oper.still
 rw [h a.eval (fun x u hx => hf.eval hx) _ ⟨m, rfl⟩]
 exact ⟨rfl, k.go _ m (hf.put (by simpa [Nat.blt_eq] using hd) v)⟩

theorem SL.split {d : Nat} {b : Bool} (hd : get e d = some (.bool b)) (ht : b = true → SL P N ops.toArray l ((d, .bool true) :: e) w K) (hf : b = false → SL P N ops.toArray l ((d, .bool false) :: e) w K) : SL P N ops.toArray l e w K := by
 refine ⟨fun a m h => ?_⟩
 cases b
 ·exact (hf rfl).go a m (h.shadow hd)
 ·exact (ht rfl).go a m (h.shadow hd)
end still

section gsplit
variable {P : Program} {N : Nat} {e : Env} {w : World} {Q : Exit → Act → World → Prop} {K : Act → World → Prop} {C : World → Prop} {ops : List Oper} {l : List Oper}
theorem WL.gD {o : Option Tmp} {op : Op} {tt : TypeId} {ps : String} {af : Array Edge} {j : Nat} {g : Bool} {d : Nat} {p : Prop} (hj : dstAt ops j = some d) (hd : get e d = some (.bool (dec p)))
  (ht : p → WL P N ops.toArray (⟨o, op, tt, ps, af, some (j, g)⟩ :: l) ((d, .bool true) :: e) w Q) (hf : ¬ p → WL P N ops.toArray (⟨o, op, tt, ps, af, some (j, g)⟩ :: l) ((d, .bool false) :: e) w Q) :
  WL P N ops.toArray (⟨o, op, tt, ps, af, some (j, g)⟩ :: l) e w Q := WL.split hd (fun h => ht (of_dec h)) (fun h => hf (of_dec_false h))
theorem WL.gB {o : Option Tmp} {op : Op} {tt : TypeId} {ps : String} {af : Array Edge} {j : Nat} {g : Bool} {d : Nat} {b : Bool} (hj : dstAt ops j = some d) (hd : get e d = some (.bool b))
  (ht : b = true → WL P N ops.toArray (⟨o, op, tt, ps, af, some (j, g)⟩ :: l) ((d, .bool true) :: e) w Q) (hf : b = false → WL P N ops.toArray (⟨o, op, tt, ps, af, some (j, g)⟩ :: l) ((d, .bool false) :: e) w Q) :
  WL P N ops.toArray (⟨o, op, tt, ps, af, some (j, g)⟩ :: l) e w Q := WL.split hd ht hf
theorem QL.gD {o : Option Tmp} {op : Op} {tt : TypeId} {ps : String} {af : Array Edge} {j : Nat} {g : Bool} {d : Nat} {p : Prop} (hj : dstAt ops j = some d) (hd : get e d = some (.bool (dec p)))
  (ht : p → QL P N C ops.toArray (⟨o, op, tt, ps, af, some (j, g)⟩ :: l) ((d, .bool true) :: e) Q) (hf : ¬ p → QL P N C ops.toArray (⟨o, op, tt, ps, af, some (j, g)⟩ :: l) ((d, .bool false) :: e) Q) :
  QL P N C ops.toArray (⟨o, op, tt, ps, af, some (j, g)⟩ :: l) e Q := QL.split hd (fun h => ht (of_dec h)) (fun h => hf (of_dec_false h))
theorem QL.gB {o : Option Tmp} {op : Op} {tt : TypeId} {ps : String} {af : Array Edge} {j : Nat} {g : Bool} {d : Nat} {b : Bool} (hj : dstAt ops j = some d) (hd : get e d = some (.bool b))
  (ht : b = true → QL P N C ops.toArray (⟨o, op, tt, ps, af, some (j, g)⟩ :: l) ((d, .bool true) :: e) Q) (hf : b = false → QL P N C ops.toArray (⟨o, op, tt, ps, af, some (j, g)⟩ :: l) ((d, .bool false) :: e) Q) :
  QL P N C ops.toArray (⟨o, op, tt, ps, af, some (j, g)⟩ :: l) e Q := QL.split hd ht hf
theorem SL.gD {o : Option Tmp} {op : Op} {tt : TypeId} {ps : String} {af : Array Edge} {j : Nat} {g : Bool} {d : Nat} {p : Prop} (hj : dstAt ops j = some d) (hd : get e d = some (.bool (dec p)))
  (ht : p → SL P N ops.toArray (⟨o, op, tt, ps, af, some (j, g)⟩ :: l) ((d, .bool true) :: e) w K) (hf : ¬ p → SL P N ops.toArray (⟨o, op, tt, ps, af, some (j, g)⟩ :: l) ((d, .bool false) :: e) w K) :
  SL P N ops.toArray (⟨o, op, tt, ps, af, some (j, g)⟩ :: l) e w K := SL.split hd (fun h => ht (of_dec h)) (fun h => hf (of_dec_false h))
theorem SL.gB {o : Option Tmp} {op : Op} {tt : TypeId} {ps : String} {af : Array Edge} {j : Nat} {g : Bool} {d : Nat} {b : Bool} (hj : dstAt ops j = some d) (hd : get e d = some (.bool b))
  (ht : b = true → SL P N ops.toArray (⟨o, op, tt, ps, af, some (j, g)⟩ :: l) ((d, .bool true) :: e) w K) (hf : b = false → SL P N ops.toArray (⟨o, op, tt, ps, af, some (j, g)⟩ :: l) ((d, .bool false) :: e) w K) :
  SL P N ops.toArray (⟨o, op, tt, ps, af, some (j, g)⟩ :: l) e w K := SL.split hd ht hf
end gsplit

section arith
variable {P : Program} {e : Env} {dd : Option Tmp} {t ty tt : TypeId} {x y : Operand} {ps : String} {af : Array Edge} {g : Option (Nat × Bool)} {a b : Int}

abbrev inI64 (n : Int) : Prop := -9223372036854775808 ≤ n ∧ n ≤ 9223372036854775807

theorem yadd (hx : ev e x = some (.int .i64 a)) (hy : ev e y = some (.int .i64 b)) (h : inI64 (a + b)) : Yields P e ⟨dd, .binOp .add t x y ty, tt, ps, af, g⟩ (.int .i64 (a + b)) := by
 have := Yields.bin (P := P) (d := dd) (op := .add) (t := t) (ty := ty) (tt := tt) (ps := ps) (af := af) (g := g) hx hy (v := .int .i64 (IntKind.i64.wrap (a + b))) rfl
 rwa [IntWalk.i64_in _ h] at this
theorem ysub (hx : ev e x = some (.int .i64 a)) (hy : ev e y = some (.int .i64 b)) (h : inI64 (a - b)) : Yields P e ⟨dd, .binOp .sub t x y ty, tt, ps, af, g⟩ (.int .i64 (a - b)) := by
 have := Yields.bin (P := P) (d := dd) (op := .sub) (t := t) (ty := ty) (tt := tt) (ps := ps) (af := af) (g := g) hx hy (v := .int .i64 (IntKind.i64.wrap (a - b))) rfl
 rwa [IntWalk.i64_in _ h] at this
theorem ymul (hx : ev e x = some (.int .i64 a)) (hy : ev e y = some (.int .i64 b)) (h : inI64 (a * b)) : Yields P e ⟨dd, .binOp .mul t x y ty, tt, ps, af, g⟩ (.int .i64 (a * b)) := by
 have := Yields.bin (P := P) (d := dd) (op := .mul) (t := t) (ty := ty) (tt := tt) (ps := ps) (af := af) (g := g) hx hy (v := .int .i64 (IntKind.i64.wrap (a * b))) rfl
 rwa [IntWalk.i64_in _ h] at this
theorem run_div (op : BinOp) (k : IntKind) (v : Value) (hb : b ≠ 0) (h : (op = .quo ∧ v = .int k (k.wrap (a.tdiv b))) ∨ (op = .rem ∧ v = .int k (a.tmod b))) (w : World) :
  (binOp op t (.int k a) (.int k b)).run P w = .ok v w := by
 rcases h with ⟨rfl, rfl⟩ | ⟨rfl, rfl⟩ <;> simp [binOp, Op.intDiv, hb]
theorem ydiv {k : IntKind} {op : BinOp} {v : Value} (hx : ev e x = some (.int k a)) (hy : ev e y = some (.int k b)) (hb : b ≠ 0) (h : (op = .quo ∧ v = .int k (k.wrap (a.tdiv b))) ∨ (op = .rem ∧ v = .int k (a.tmod b))) :
  Yields P e ⟨dd, .binOp op t x y ty, tt, ps, af, g⟩ v := by
 intro ρ hρ w
 simp [execOp, hρ _ _ hx, hρ _ _ hy, eqGuard_int, run_div op k v hb h]
theorem yquo (hx : ev e x = some (.int .i64 a)) (hy : ev e y = some (.int .i64 b)) (h : 0 ≤ a ∧ a ≤ 9223372036854775807 ∧ 1 ≤ b) : Yields P e ⟨dd, .binOp .quo t x y ty, tt, ps, af, g⟩ (.int .i64 (a / b)) := by
 have := ydiv (P := P) (dd := dd) (op := .quo) (t := t) (ty := ty) (tt := tt) (ps := ps) (af := af) (g := g) hx hy (by omega) (.inl ⟨rfl, rfl⟩)
 rwa [IntWalk.i64_quo _ _ h] at this
theorem yrem (hx : ev e x = some (.int .i64 a)) (hy : ev e y = some (.int .i64 b)) (h : 0 ≤ a ∧ 1 ≤ b) : Yields P e ⟨dd, .binOp .rem t x y ty, tt, ps, af, g⟩ (.int .i64 (a % b)) := by
 have := ydiv (P := P) (dd := dd) (op := .rem) (t := t) (ty := ty) (tt := tt) (ps := ps) (af := af) (g := g) hx hy (by omega) (.inr ⟨rfl, rfl⟩)
 rwa [IntWalk.rem_in _ _ h.1] at this
theorem yquow (hx : ev e x = some (.int .i64 a)) (hy : ev e y = some (.int .i64 b)) (h : inI64 a ∧ 1 ≤ b) : Yields P e ⟨dd, .binOp .quo t x y ty, tt, ps, af, g⟩ (.int .i64 (a.tdiv b)) := by
 have := ydiv (P := P) (dd := dd) (op := .quo) (t := t) (ty := ty) (tt := tt) (ps := ps) (af := af) (g := g) hx hy (by omega) (.inl ⟨rfl, rfl⟩)
 rwa [IntWalk.i64_quo' _ _ ⟨h.1.1, h.1.2, h.2⟩] at this
end arith

def Cells (w : World) (b : Nat) : Nat → List Value → Prop
 | _, [] => True
 | off, u :: r => w.cell? ⟨b, off, none⟩ = some u ∧ Cells w b (off + 1) r

theorem Cells.ext {w w' : World} (h : Ext w w') {b : Nat} : ∀ {off : Nat} {l : List Value}, Cells w b off l → Cells w' b off l
 | _, [], _ => trivial
 | _, _ :: _, ⟨h1, h2⟩ => ⟨h.cell h1, Cells.ext h h2⟩

structure Row {α : Type} (s : Nat) (enc : α → List Value) (w : World) (a : Option Addr) (l : List α) : Prop where
 len : l.length ≤ 9223372036854775807
 elem : ∀ i x, l[i]? = some x → ∃ b off, a = some ⟨b, off, none⟩ ∧ Cells w b (off + i * s) (enc x)

theorem Row.nil {α : Type} (s : Nat) (enc : α → List Value) (w : World) (a : Option Addr) : Row s enc w a [] := ⟨by simp, fun i x h => by simp at h⟩
theorem Row.ext {α : Type} {s : Nat} {enc : α → List Value} {w w' : World} {a : Option Addr} {l : List α} (h : Row s enc w a l) (hx : Ext w w') : Row s enc w' a l :=
 ⟨h.len, fun i x hi => let ⟨b, off, h1, h2⟩ := h.elem i x hi; ⟨b, off, h1, h2.ext hx⟩⟩

section reads
variable {P : Program} {T : Tab} {C : World → Prop} {e : Env} {dd : Option Tmp} {t tt : TypeId} {x y : Operand} {ps : String} {af : Array Edge} {g : Option (Nat × Bool)} {w w0 : World}

theorem yload [Cls C w] (hT : OkTab P T) {p : Addr} {v : Value} {i : TI} (hx : ev e x = some (.pointer (some p))) (ht : tget T t = some i) (ha : isAggD i.desc = false) (hv : w.cell? p = some v) :
  YieldsIn P e C ⟨dd, .load t x, tt, ps, af, g⟩ v := by
 intro ρ hρ w' hw'
 have h1 := run_isAgg' (hT.at ht); rw [ha] at h1
 have h2 := (Cls.keeps (C := C) w' hw').cell hv
 simp [execOp, hρ _ _ hx, Instr.loadAt, Instr.sureAddr, loadVar, h1, h2]

theorem run_loadCellsFrom {w : World} {b : Nat} : ∀ {l : List Value} {off i : Nat} {acc : Array Value}, Cells w b (off + i) l → (loadCellsFrom ⟨b, off, none⟩ i l.length acc).run P w = .ok (acc ++ l.toArray) w
 | [], off, i, acc, _ => by simp [loadCellsFrom]
 | u :: r, off, i, acc, ⟨h1, h2⟩ => by
  have ih := run_loadCellsFrom (l := r) (off := off) (i := i + 1) (acc := acc.push u) (by simpa [Nat.add_assoc] using h2)
  simp [loadCellsFrom, Addr_add_none, h1, ih]

theorem yloadAgg [Cls C w] (hT : OkTab P T) {b off : Nat} {l : List Value} {i : TI} (hx : ev e x = some (.pointer (some ⟨b, off, none⟩))) (ht : tget T t = some i) (ha : isAggD i.desc = true) (hs : i.size = l.length) (hv : Cells w b off l) :
  YieldsIn P e C ⟨dd, .load t x, tt, ps, af, g⟩ (.agg l.toArray) := by
 intro ρ hρ w' hw'
 have h1 := run_isAgg' (hT.at ht); rw [ha] at h1
 have h3 := run_sizeOf' (hT.at ht); rw [hs] at h3
 have h2 := run_loadCellsFrom (P := P) (acc := #[]) (off := off) (i := 0) (hv.ext (Cls.keeps (C := C) w' hw'))
 simp [execOp, hρ _ _ hx, Instr.loadAt, Instr.sureAddr, loadVar, h1, h3, loadCells, h2]

theorem yindex (hT : OkTab P T) {α : Type} {s : Nat} {enc : α → List Value} {a : Option Addr} {l : List α} {n cap : Nat} {k : IntKind} {i : Int} {ti ei : TI} {el : TypeId} {z : α}
  (hx : ev e x = some (.slice a n cap)) (hy : ev e y = some (.int k i)) (ht : tget T t = some ti) (hd : ti.desc = .slice el) (he : tget T el = some ei) (hs : ei.size = s)
  (R : Row s enc w0 a l) (E : Ext w0 w) (hn : l.length = n) (h0 : 0 ≤ i) (hz : l[i.toNat]? = some z) :
  ∃ b off, Cells w b off (enc z) ∧ Yields P e ⟨dd, .indexAddr t x y, tt, ps, af, g⟩ (.pointer (some ⟨b, off, none⟩)) := by
 obtain ⟨b, off, ha, hc⟩ := R.elem _ _ hz
 refine ⟨b, off + i.toNat * s, hc.ext E, ?_⟩
 intro ρ hρ w'
 have hlt : i.toNat < l.length := (List.getElem?_eq_some_iff.1 hz).1
 have h1 := run_underlying' (hT.at ht); rw [hd] at h1
 have h2 := run_sizeOf' (hT.at he); rw [hs] at h2
 have h3 : i < (n : Int) := by omega
 subst ha
 simp [execOp, hρ _ _ hx, hρ _ _ hy, Instr.indexAt, asIntOf, h1, h2, h0, h3, Addr_add_none]
end reads
end Go.Lt
namespace Go.Lt
open Go.RowKit
set_option linter.unusedVariables false
variable {P : Program} {N : Nat} {e : Env} {w : World} {Q : Exit → Act → World → Prop} {K : Act → World → Prop} {C : World → Prop} {ops : List Oper} {l : List Oper} {T : Tab}

theorem WL.pev {d : Nat} {tt : TypeId} {ps : String} {af : Array Edge} {g : Option (Nat × Bool)} {op : Op} {v : Value} (hT : OkTab P T) (hg : gate ops e g = some true) (hd : Nat.blt d N = true) (h : pev T e op = some v) (k : WL P N ops.toArray l ((d, v) :: e) w Q) : WL P N ops.toArray (⟨some d, op, tt, ps, af, g⟩ :: l) e w Q :=
 WL.step hg hd (pev_yields hT h).in k

theorem WL.add {d : Nat} {tt : TypeId} {ps : String} {af : Array Edge} {g : Option (Nat × Bool)} {t ty : TypeId} {x y : Operand} {a b : Int} (hg : gate ops e g = some true) (hd : Nat.blt d N = true) (hx : ev e x = some (.int .i64 a)) (hy : ev e y = some (.int .i64 b)) (h : inI64 (a + b)) (k : WL P N ops.toArray l ((d, .int .i64 (a + b)) :: e) w Q) : WL P N ops.toArray (⟨some d, .binOp .add t x y ty, tt, ps, af, g⟩ :: l) e w Q :=
 WL.step hg hd (yadd hx hy h).in k

theorem WL.sub {d : Nat} {tt : TypeId} {ps : String} {af : Array Edge} {g : Option (Nat × Bool)} {t ty : TypeId} {x y : Operand} {a b : Int} (hg : gate ops e g = some true) (hd : Nat.blt d N = true) (hx : ev e x = some (.int .i64 a)) (hy : ev e y = some (.int .i64 b)) (h : inI64 (a - b)) (k : WL P N ops.toArray l ((d, .int .i64 (a - b)) :: e) w Q) : WL P N ops.toArray (⟨some d, .binOp .sub t x y ty, tt, ps, af, g⟩ :: l) e w Q :=
 WL.step hg hd (ysub hx hy h).in k

theorem WL.mul {d : Nat} {tt : TypeId} {ps : String} {af : Array Edge} {g : Option (Nat × Bool)} {t ty : TypeId} {x y : Operand} {a b : Int} (hg : gate ops e g = some true) (hd : Nat.blt d N = true) (hx : ev e x = some (.int .i64 a)) (hy : ev e y = some (.int .i64 b)) (h : inI64 (a * b)) (k : WL P N ops.toArray l ((d, .int .i64 (a * b)) :: e) w Q) : WL P N ops.toArray (⟨some d, .binOp .mul t x y ty, tt, ps, af, g⟩ :: l) e w Q :=
 WL.step hg hd (ymul hx hy h).in k

theorem WL.quo {d : Nat} {tt : TypeId} {ps : String} {af : Array Edge} {g : Option (Nat × Bool)} {t ty : TypeId} {x y : Operand} {a b : Int} (hg : gate ops e g = some true) (hd : Nat.blt d N = true) (hx : ev e x = some (.int .i64 a)) (hy : ev e y = some (.int .i64 b)) (h : 0 ≤ a ∧ a ≤ 9223372036854775807 ∧ 1 ≤ b) (k : WL P N ops.toArray l ((d, .int .i64 (a / b)) :: e) w Q) : WL P N ops.toArray (⟨some d, .binOp .quo t x y ty, tt, ps, af, g⟩ :: l) e w Q :=
 WL.step hg hd (yquo hx hy h).in k

theorem WL.rem {d : Nat} {tt : TypeId} {ps : String} {af : Array Edge} {g : Option (Nat × Bool)} {t ty : TypeId} {x y : Operand} {a b : Int} (hg : gate ops e g = some true) (hd : Nat.blt d N = true) (hx : ev e x = some (.int .i64 a)) (hy : ev e y = some (.int .i64 b)) (h : 0 ≤ a ∧ 1 ≤ b) (k : WL P N ops.toArray l ((d, .int .i64 (a % b)) :: e) w Q) : WL P N ops.toArray (⟨some d, .binOp .rem t x y ty, tt, ps, af, g⟩ :: l) e w Q :=
 WL.step hg hd (yrem hx hy h).in k

theorem WL.quow {d : Nat} {tt : TypeId} {ps : String} {af : Array Edge} {g : Option (Nat × Bool)} {t ty : TypeId} {x y : Operand} {a b : Int} (hg : gate ops e g = some true) (hd : Nat.blt d N = true) (hx : ev e x = some (.int .i64 a)) (hy : ev e y = some (.int .i64 b)) (h : inI64 a ∧ 1 ≤ b) (k : WL P N ops.toArray l ((d, .int .i64 (a.tdiv b)) :: e) w Q) : WL P N ops.toArray (⟨some d, .binOp .quo t x y ty, tt, ps, af, g⟩ :: l) e w Q :=
 WL.step hg hd (yquow hx hy h).in k

theorem WL.load {d : Nat} {tt : TypeId} {ps : String} {af : Array Edge} {g : Option (Nat × Bool)} {t : TypeId} {x : Operand} {p : Addr} {v : Value} {i : TI} (hT : OkTab P T) (hg : gate ops e g = some true) (hd : Nat.blt d N = true) (hx : ev e x = some (.pointer (some p))) (ht : tget T t = some i) (ha : isAggD i.desc = false) (hv : w.cell? p = some v) (k : WL P N ops.toArray l ((d, v) :: e) w Q) : WL P N ops.toArray (⟨some d, .load t x, tt, ps, af, g⟩ :: l) e w Q :=
 WL.step hg hd (yload hT hx ht ha hv) k
theorem WL.loadA {d : Nat} {tt : TypeId} {ps : String} {af : Array Edge} {g : Option (Nat × Bool)} {t : TypeId} {x : Operand} {b off : Nat} {vs : List Value} {i : TI} (hT : OkTab P T) (hg : gate ops e g = some true) (hd : Nat.blt d N = true) (hx : ev e x = some (.pointer (some ⟨b, off, none⟩))) (ht : tget T t = some i) (ha : isAggD i.desc = true) (hv : Cells w b off vs) (hs : i.size = vs.length) (k : WL P N ops.toArray l ((d, .agg vs.toArray) :: e) w Q) : WL P N ops.toArray (⟨some d, .load t x, tt, ps, af, g⟩ :: l) e w Q :=
 WL.step hg hd (yloadAgg hT hx ht ha hs hv) k
theorem WL.index {d : Nat} {tt : TypeId} {ps : String} {af : Array Edge} {g : Option (Nat × Bool)} {t : TypeId} {x y : Operand} {α : Type} {s : Nat} {enc : α → List Value} {a : Option Addr} {xs : List α} {n cap : Nat} {kk : IntKind} {i : Int} {ti ei : TI} {el : TypeId} {z : α} {w0 : World}
  (hT : OkTab P T) (hg : gate ops e g = some true) (hd : Nat.blt d N = true) (hx : ev e x = some (.slice a n cap)) (hy : ev e y = some (.int kk i)) (ht : tget T t = some ti) (htd : ti.desc = .slice el) (he : tget T el = some ei) (hs : ei.size = s)
  (R : Row s enc w0 a xs) (E : Ext w0 w) (hn : xs.length = n) (h0 : 0 ≤ i) (hz : xs[i.toNat]? = some z)
  (k : ∀ b off, Cells w b off (enc z) → WL P N ops.toArray l ((d, .pointer (some ⟨b, off, none⟩)) :: e) w Q) : WL P N ops.toArray (⟨some d, .indexAddr t x y, tt, ps, af, g⟩ :: l) e w Q := by
 obtain ⟨b, off, hc, hy'⟩ := yindex (P := P) (dd := some d) (t := t) (tt := tt) (x := x) (y := y) (ps := ps) (af := af) (g := g) hT hx hy ht htd he hs R E hn h0 hz
 exact WL.step hg hd hy'.in (k b off hc)

theorem QL.pev {d : Nat} {tt : TypeId} {ps : String} {af : Array Edge} {g : Option (Nat × Bool)} {op : Op} {v : Value} (hT : OkTab P T) (hg : gate ops e g = some true) (hd : Nat.blt d N = true) (h : pev T e op = some v) (k : QL P N C ops.toArray l ((d, v) :: e) Q) : QL P N C ops.toArray (⟨some d, op, tt, ps, af, g⟩ :: l) e Q :=
 QL.step hg hd (pev_yields hT h).in k

theorem QL.add {d : Nat} {tt : TypeId} {ps : String} {af : Array Edge} {g : Option (Nat × Bool)} {t ty : TypeId} {x y : Operand} {a b : Int} (hg : gate ops e g = some true) (hd : Nat.blt d N = true) (hx : ev e x = some (.int .i64 a)) (hy : ev e y = some (.int .i64 b)) (h : inI64 (a + b)) (k : QL P N C ops.toArray l ((d, .int .i64 (a + b)) :: e) Q) : QL P N C ops.toArray (⟨some d, .binOp .add t x y ty, tt, ps, af, g⟩ :: l) e Q :=
 QL.step hg hd (yadd hx hy h).in k

theorem QL.sub {d : Nat} {tt : TypeId} {ps : String} {af : Array Edge} {g : Option (Nat × Bool)} {t ty : TypeId} {x y : Operand} {a b : Int} (hg : gate ops e g = some true) (hd : Nat.blt d N = true) (hx : ev e x = some (.int .i64 a)) (hy : ev e y = some (.int .i64 b)) (h : inI64 (a - b)) (k : QL P N C ops.toArray l ((d, .int .i64 (a - b)) :: e) Q) : QL P N C ops.toArray (⟨some d, .binOp .sub t x y ty, tt, ps, af, g⟩ :: l) e Q :=
 QL.step hg hd (ysub hx hy h).in k

theorem QL.mul {d : Nat} {tt : TypeId} {ps : String} {af : Array Edge} {g : Option (Nat × Bool)} {t ty : TypeId} {x y : Operand} {a b : Int} (hg : gate ops e g = some true) (hd : Nat.blt d N = true) (hx : ev e x = some (.int .i64 a)) (hy : ev e y = some (.int .i64 b)) (h : inI64 (a * b)) (k : QL P N C ops.toArray l ((d, .int .i64 (a * b)) :: e) Q) : QL P N C ops.toArray (⟨some d, .binOp .mul t x y ty, tt, ps, af, g⟩ :: l) e Q :=
 QL.step hg hd (ymul hx hy h).in k

theorem QL.quo {d : Nat} {tt : TypeId} {ps : String} {af : Array Edge} {g : Option (Nat × Bool)} {t ty : TypeId} {x y : Operand} {a b : Int} (hg : gate ops e g = some true) (hd : Nat.blt d N = true) (hx : ev e x = some (.int .i64 a)) (hy : ev e y = some (.int .i64 b)) (h : 0 ≤ a ∧ a ≤ 9223372036854775807 ∧ 1 ≤ b) (k : QL P N C ops.toArray l ((d, .int .i64 (a / b)) :: e) Q) : QL P N C ops.toArray (⟨some d, .binOp .quo t x y ty, tt, ps, af, g⟩ :: l) e Q :=
 QL.step hg hd (yquo hx hy h).in k

theorem QL.rem {d : Nat} {tt : TypeId} {ps : String} {af : Array Edge} {g : Option (Nat × Bool)} {t ty : TypeId} {x y : Operand} {a b : Int} (hg : gate ops e g = some true) (hd : Nat.blt d N = true) (hx : ev e x = some (.int .i64 a)) (hy : ev e y = some (.int .i64 b)) (h : 0 ≤ a ∧ 1 ≤ b) (k : QL P N C ops.toArray l ((d, .int .i64 (a % b)) :: e) Q) : QL P N C ops.toArray (⟨some d, .binOp .rem t x y ty, tt, ps, af, g⟩ :: l) e Q :=
 QL.step hg hd (yrem hx hy h).in k

theorem QL.quow {d : Nat} {tt : TypeId} {ps : String} {af : Array Edge} {g : Option (Nat × Bool)} {t ty : TypeId} {x y : Operand} {a b : Int} (hg : gate ops e g = some true) (hd : Nat.blt d N = true) (hx : ev e x = some (.int .i64 a)) (hy : ev e y = some (.int .i64 b)) (h : inI64 a ∧ 1 ≤ b) (k : QL P N C ops.toArray l ((d, .int .i64 (a.tdiv b)) :: e) Q) : QL P N C ops.toArray (⟨some d, .binOp .quo t x y ty, tt, ps, af, g⟩ :: l) e Q :=
 QL.step hg hd (yquow hx hy h).in k

theorem QL.load [Cls C w] {d : Nat} {tt : TypeId} {ps : String} {af : Array Edge} {g : Option (Nat × Bool)} {t : TypeId} {x : Operand} {p : Addr} {v : Value} {i : TI} (hT : OkTab P T) (hg : gate ops e g = some true) (hd : Nat.blt d N = true) (hx : ev e x = some (.pointer (some p))) (ht : tget T t = some i) (ha : isAggD i.desc = false) (hv : w.cell? p = some v) (k : QL P N C ops.toArray l ((d, v) :: e) Q) : QL P N C ops.toArray (⟨some d, .load t x, tt, ps, af, g⟩ :: l) e Q :=
 QL.step hg hd (yload hT hx ht ha hv) k
theorem QL.loadA [Cls C w] {d : Nat} {tt : TypeId} {ps : String} {af : Array Edge} {g : Option (Nat × Bool)} {t : TypeId} {x : Operand} {b off : Nat} {vs : List Value} {i : TI} (hT : OkTab P T) (hg : gate ops e g = some true) (hd : Nat.blt d N = true) (hx : ev e x = some (.pointer (some ⟨b, off, none⟩))) (ht : tget T t = some i) (ha : isAggD i.desc = true) (hv : Cells w b off vs) (hs : i.size = vs.length) (k : QL P N C ops.toArray l ((d, .agg vs.toArray) :: e) Q) : QL P N C ops.toArray (⟨some d, .load t x, tt, ps, af, g⟩ :: l) e Q :=
 QL.step hg hd (yloadAgg hT hx ht ha hs hv) k
theorem QL.index [Cls C w] {d : Nat} {tt : TypeId} {ps : String} {af : Array Edge} {g : Option (Nat × Bool)} {t : TypeId} {x y : Operand} {α : Type} {s : Nat} {enc : α → List Value} {a : Option Addr} {xs : List α} {n cap : Nat} {kk : IntKind} {i : Int} {ti ei : TI} {el : TypeId} {z : α} {w0 : World}
  (hT : OkTab P T) (hg : gate ops e g = some true) (hd : Nat.blt d N = true) (hx : ev e x = some (.slice a n cap)) (hy : ev e y = some (.int kk i)) (ht : tget T t = some ti) (htd : ti.desc = .slice el) (he : tget T el = some ei) (hs : ei.size = s)
  (R : Row s enc w0 a xs) (E : Ext w0 w) (hn : xs.length = n) (h0 : 0 ≤ i) (hz : xs[i.toNat]? = some z)
  (k : ∀ b off, Cells w b off (enc z) → QL P N C ops.toArray l ((d, .pointer (some ⟨b, off, none⟩)) :: e) Q) : QL P N C ops.toArray (⟨some d, .indexAddr t x y, tt, ps, af, g⟩ :: l) e Q := by
 obtain ⟨b, off, hc, hy'⟩ := yindex (P := P) (dd := some d) (t := t) (tt := tt) (x := x) (y := y) (ps := ps) (af := af) (g := g) hT hx hy ht htd he hs R E hn h0 hz
 exact QL.step hg hd hy'.in (k b off hc)

theorem SL.pev {d : Nat} {tt : TypeId} {ps : String} {af : Array Edge} {g : Option (Nat × Bool)} {op : Op} {v : Value} (hT : OkTab P T) (hg : gate ops e g = some true) (hd : Nat.blt d N = true) (h : pev T e op = some v) (k : SL P N ops.toArray l ((d, v) :: e) w K) : SL P N ops.toArray (⟨some d, op, tt, ps, af, g⟩ :: l) e w K :=
 SL.step hg hd (pev_yields hT h).in k

theorem SL.add {d : Nat} {tt : TypeId} {ps : String} {af : Array Edge} {g : Option (Nat × Bool)} {t ty : TypeId} {x y : Operand} {a b : Int} (hg : gate ops e g = some true) (hd : Nat.blt d N = true) (hx : ev e x = some (.int .i64 a)) (hy : ev e y = some (.int .i64 b)) (h : inI64 (a + b)) (k : SL P N ops.toArray l ((d, .int .i64 (a + b)) :: e) w K) : SL P N ops.toArray (⟨some d, .binOp .add t x y ty, tt, ps, af, g⟩ :: l) e w K :=
 SL.step hg hd (yadd hx hy h).in k

theorem SL.sub {d : Nat} {tt : TypeId} {ps : String} {af : Array Edge} {g : Option (Nat × Bool)} {t ty : TypeId} {x y : Operand} {a b : Int} (hg : gate ops e g = some true) (hd : Nat.blt d N = true) (hx : ev e x = some (.int .i64 a)) (hy : ev e y = some (.int .i64 b)) (h : inI64 (a - b)) (k : SL P N ops.toArray l ((d, .int .i64 (a - b)) :: e) w K) : SL P N ops.toArray (⟨some d, .binOp .sub t x y ty, tt, ps, af, g⟩ :: l) e w K :=
 SL.step hg hd (ysub hx hy h).in k

theorem SL.mul {d : Nat} {tt : TypeId} {ps : String} {af : Array Edge} {g : Option (Nat × Bool)} {t ty : TypeId} {x y : Operand} {a b : Int} (hg : gate ops e g = some true) (hd : Nat.blt d N = true) (hx : ev e x = some (.int .i64 a)) (hy : ev e y = some (.int .i64 b)) (h : inI64 (a * b)) (k : SL P N ops.toArray l ((d, .int .i64 (a * b)) :: e) w K) : SL P N ops.toArray (⟨some d, .binOp .mul t x y ty, tt, ps, af, g⟩ :: l) e w K :=
 SL.step hg hd (ymul hx hy h).in k

theorem SL.quo {d : Nat} {tt : TypeId} {ps : String} {af : Array Edge} {g : Option (Nat × Bool)} {t ty : TypeId} {x y : Operand} {a b : Int} (hg : gate ops e g = some true) (hd : Nat.blt d N = true) (hx : ev e x = some (.int .i64 a)) (hy : ev e y = some (.int .i64 b)) (h : 0 ≤ a ∧ a ≤ 9223372036854775807 ∧ 1 ≤ b) (k : SL P N ops.toArray l ((d, .int .i64 (a / b)) :: e) w K) : SL P N ops.toArray (⟨some d, .binOp .quo t x y ty, tt, ps, af, g⟩ :: l) e w K :=
 SL.step hg hd (yquo hx hy h).in k

theorem SL.rem {d : Nat} {tt : TypeId} {ps : String} {af : Array Edge} {g : Option (Nat × Bool)} {t ty : TypeId} {x y : Operand} {a b : Int} (hg : gate ops e g = some true) (hd : Nat.blt d N = true) (hx : ev e x = some (.int .i64 a)) (hy : ev e y = some (.int .i64 b)) (h : 0 ≤ a ∧ 1 ≤ b) (k : SL P N ops.toArray l ((d, .int .i64 (a % b)) :: e) w K) : SL P N ops.toArray (⟨some d, .binOp .rem t x y ty, tt, ps, af, g⟩ :: l) e w K :=
 SL.step hg hd (yrem hx hy h).in k

theorem SL.quow {d : Nat} {tt : TypeId} {ps : String} {af : Array Edge} {g : Option (Nat × Bool)} {t ty : TypeId} {x y : Operand} {a b : Int} (hg : gate ops e g = some true) (hd : Nat.blt d N = true) (hx : ev e x = some (.int .i64 a)) (hy : ev e y = some (.int .i64 b)) (h : inI64 a ∧ 1 ≤ b) (k : SL P N ops.toArray l ((d, .int .i64 (a.tdiv b)) :: e) w K) : SL P N ops.toArray (⟨some d, .binOp .quo t x y ty, tt, ps, af, g⟩ :: l) e w K :=
 SL.step hg hd (yquow hx hy h).in k

theorem SL.load {d : Nat} {tt : TypeId} {ps : String} {af : Array Edge} {g : Option (Nat × Bool)} {t : TypeId} {x : Operand} {p : Addr} {v : Value} {i : TI} (hT : OkTab P T) (hg : gate ops e g = some true) (hd : Nat.blt d N = true) (hx : ev e x = some (.pointer (some p))) (ht : tget T t = some i) (ha : isAggD i.desc = false) (hv : w.cell? p = some v) (k : SL P N ops.toArray l ((d, v) :: e) w K) : SL P N ops.toArray (⟨some d, .load t x, tt, ps, af, g⟩ :: l) e w K :=
 SL.step hg hd (yload hT hx ht ha hv) k
theorem SL.loadA {d : Nat} {tt : TypeId} {ps : String} {af : Array Edge} {g : Option (Nat × Bool)} {t : TypeId} {x : Operand} {b off : Nat} {vs : List Value} {i : TI} (hT : OkTab P T) (hg : gate ops e g = some true) (hd : Nat.blt d N = true) (hx : ev e x = some (.pointer (some ⟨b, off, none⟩))) (ht : tget T t = some i) (ha : isAggD i.desc = true) (hv : Cells w b off vs) (hs : i.size = vs.length) (k : SL P N ops.toArray l ((d, .agg vs.toArray) :: e) w K) : SL P N ops.toArray (⟨some d, .load t x, tt, ps, af, g⟩ :: l) e w K :=
 SL.step hg hd (yloadAgg hT hx ht ha hs hv) k
theorem SL.index {d : Nat} {tt : TypeId} {ps : String} {af : Array Edge} {g : Option (Nat × Bool)} {t : TypeId} {x y : Operand} {α : Type} {s : Nat} {enc : α → List Value} {a : Option Addr} {xs : List α} {n cap : Nat} {kk : IntKind} {i : Int} {ti ei : TI} {el : TypeId} {z : α} {w0 : World}
  (hT : OkTab P T) (hg : gate ops e g = some true) (hd : Nat.blt d N = true) (hx : ev e x = some (.slice a n cap)) (hy : ev e y = some (.int kk i)) (ht : tget T t = some ti) (htd : ti.desc = .slice el) (he : tget T el = some ei) (hs : ei.size = s)
  (R : Row s enc w0 a xs) (E : Ext w0 w) (hn : xs.length = n) (h0 : 0 ≤ i) (hz : xs[i.toNat]? = some z)
  (k : ∀ b off, Cells w b off (enc z) → SL P N ops.toArray l ((d, .pointer (some ⟨b, off, none⟩)) :: e) w K) : SL P N ops.toArray (⟨some d, .indexAddr t x y, tt, ps, af, g⟩ :: l) e w K := by
 obtain ⟨b, off, hc, hy'⟩ := yindex (P := P) (dd := some d) (t := t) (tt := tt) (x := x) (y := y) (ps := ps) (af := af) (g := g) hT hx hy ht htd he hs R E hn h0 hz
 exact SL.step hg hd hy'.in (k b off hc)

end Go.Lt
namespace Go.Lt
open Go.RowKit
set_option linter.unusedVariables false
set_option linter.unusedSimpArgs false

def Own {α : Type} (s : Nat) (enc : α → List Value) (el : TypeId) (B : Nat) (w : World) (a : Option Addr) (cap : Nat) (l : List α) : Prop :=
 w.ownsRow B el s (.slice a l.length cap) l.length (l.flatMap enc)

structure Enc {α : Type} (s : Nat) (enc : α → List Value) : Prop where
 len : ∀ x, (enc x).length = s
 one : ∀ x, ∀ u ∈ enc x, u.oneCell' = true
 pos : 0 < s

theorem length_flatMap' {α : Type} {s : Nat} {enc : α → List Value} (h : ∀ x, (enc x).length = s) : ∀ l : List α, (l.flatMap enc).length = l.length * s
 | [] => by simp
 | x :: r => by simp [h x, length_flatMap' h r, Nat.add_mul, Nat.add_comm]

theorem getElem?_flatMap' {α : Type} {s : Nat} {enc : α → List Value} (h : ∀ x, (enc x).length = s) : ∀ (l : List α) (i j : Nat) (x : α), l[i]? = some x → j < s → (l.flatMap enc)[i * s + j]? = (enc x)[j]?
 | [], i, j, x, hx, _ => by simp at hx
 | y :: r, 0, j, x, hx, hj => by
  simp only [List.getElem?_cons_zero, Option.some.injEq] at hx
  subst hx
  have : j < (enc y).length := by rw [h]; exact hj
  simp [List.getElem?_append_left this]
 | y :: r, i + 1, j, x, hx, hj => by
  simp only [List.getElem?_cons_succ] at hx
  have ih := getElem?_flatMap' h r i j x hx hj
  rw [List.flatMap_cons, show (i + 1) * s + j = (enc y).length + (i * s + j) by rw [h, Nat.add_mul]; omega, List.getElem?_append_right (by omega)]
  simpa using ih

theorem cells_of {w : World} {b : Nat} : ∀ {off : Nat} {l : List Value}, (∀ j u, l[j]? = some u → w.cell? ⟨b, off + j, none⟩ = some u) → Cells w b off l
 | _, [], _ => trivial
 | off, u :: r, h => ⟨by simpa using h 0 u rfl, cells_of fun j v hj => by have := h (j + 1) v (by simpa using hj); rwa [show off + 1 + j = off + (j + 1) by omega]⟩

section own
variable {α : Type} {s : Nat} {enc : α → List Value} {el : TypeId} {B : Nat} {w w' : World} {a : Option Addr} {cap : Nat} {l : List α}

theorem Own.row (hE : Enc s enc) (h : Own s enc el B w a cap l) : Row s enc w a l := by
 refine ⟨?_, fun i x hx => ?_⟩
 ·rcases h.2 with ⟨_, h2⟩ | ⟨g, c, cur, _, _, _, h4, h5, _⟩
  ·omega
  ·simp only [maxLen] at h5; omega
 have hi : i < l.length := (List.getElem?_eq_some_iff.1 hx).1
 rcases h.2 with ⟨h1, h2⟩ | ⟨g, c, cur, h1, _⟩
 ·omega
 ·simp only [Value.slice.injEq] at h1
  obtain ⟨rfl, _, rfl⟩ := h1
  refine ⟨g, 0, rfl, cells_of fun j u hj => ?_⟩
  have hjs : j < s := by have := (List.getElem?_eq_some_iff.1 hj).1; rwa [hE.len] at this
  have hlt : i * s + j < l.length * s := by
   have : i * s + s ≤ l.length * s := by rw [← Nat.succ_mul]; exact Nat.mul_le_mul_right s hi
   omega
  rw [Nat.zero_add, World.ownsRow.cellAt (g := g) (n := l.length) (cap := cap) h _ hlt, getElem?_flatMap' hE.len l i j x hx hjs, hj]

theorem Own.ext (h : Own s enc el B w a cap l) (hx : Ext w w') : Own s enc el B w' a cap l := by
 refine ⟨h.1, ?_⟩
 rcases h.2 with h1 | ⟨g, c, cur, h1, h2, h3, h4⟩
 ·exact .inl h1
 ·exact .inr ⟨g, c, cur, h1, h2, by rw [hx.block g (Array.getElem?_eq_some_iff.1 h3).1]; exact h3, h4⟩

theorem Own.base {B' : Nat} (h : Own s enc el B w a cap l) (hB : B' ≤ B) : Own s enc el B' w a cap l := by
 refine ⟨h.1, ?_⟩
 rcases h.2 with h1 | ⟨g, c, cur, h1, h2, h3⟩
 ·exact .inl h1
 ·exact .inr ⟨g, c, cur, h1, Nat.le_trans hB h2, h3⟩

theorem Own.nil : Own s enc el B w none 0 ([] : List α) := World.ownsRow_nil _ _ _ _

theorem Own.capLe (h : Own s enc el B w a cap l) : l.length ≤ cap := by
 rcases h.2 with ⟨_, h2⟩ | ⟨g, c, cur, h1, _, _, h4, _⟩
 ·omega
 ·simp only [Value.slice.injEq] at h1; omega

def blk (a : Option Addr) : Option Nat := a.map (·.block)
theorem ownBlock_slice (a : Option Addr) (n c : Nat) : Value.ownBlock (.slice a n c) = blk a := by cases a <;> rfl

structure Upd (B : Nat) (a : Option Addr) (w w' : World) : Prop where
 grown : w.grownBy w' (blk a)
 from' : ∀ k, blk a = some k → B ≤ k

theorem Upd.ext {w0 : World} (h : Upd B a w w') (hx : Ext w0 w) (hB : w0.heap.size ≤ B) : Ext w0 w' :=
 Below.grown hx h.grown hx.size (fun k hk => Nat.le_trans hB (h.from' k hk))
theorem Upd.size (h : Upd B a w w') : w.heap.size ≤ w'.heap.size := h.grown.size
theorem Upd.own {β : Type} {t : Nat} {enc' : β → List Value} {el' : TypeId} {B' : Nat} {a' : Option Addr} {c' : Nat} {l' : List β} (h : Upd B a w w') (ho : Own t enc' el' B' w a' c' l') (hne : blk a' = none ∨ blk a' ≠ blk a) : Own t enc' el' B' w' a' c' l' :=
 World.ownsRow.kept ho h.grown (by rw [ownBlock_slice]; exact hne)
theorem Upd.row {β : Type} {t : Nat} {enc' : β → List Value} {w0 : World} {a' : Option Addr} {l' : List β} (h : Upd B a w w') (hx : Ext w0 w) (hB : w0.heap.size ≤ B) (R : Row t enc' w0 a' l') : Row t enc' w' a' l' := R.ext (h.ext hx hB)

theorem Own.blk_lt (h : Own s enc el B w a cap l) : ∀ k, blk a = some k → B ≤ k ∧ k < w.heap.size := fun k hk => World.ownsRow.lt h k (by rw [ownBlock_slice]; exact hk)
end own

section rules
variable {P : Program} {N : Nat} {e : Env} {w : World} {Q : Exit → Act → World → Prop} {ops : List Oper} {l : List Oper} {T : Tab}
 {d : Nat} {tt : TypeId} {ps : String} {af : Array Edge} {g : Option (Nat × Bool)} {t : TypeId} {α : Type} {s : Nat} {enc : α → List Value} {B : Nat} {ti ei : TI} {el : TypeId}

theorem WL.eff {op : Op} {v : Value} {w' : Nat → World} (hg : gate ops e g = some true) (hd : Nat.blt d N = true)
  (h : ∀ (ρ : Operand → Value), (∀ x u, ev e x = some u → ρ x = u) → ∀ m, (execOp ρ ⟨some d, op, tt, ps, af, g⟩).run P (at' w m) = .ok (.value v) (w' m))
  (k : ∀ m, WL P N ops.toArray l ((d, v) :: e) (w' m) Q) : WL P N ops.toArray (⟨some d, op, tt, ps, af, g⟩ :: l) e w Q := by
 refine ⟨fun a m hf => ?_⟩
 unfold wpList
 rw [if_pos (by rw [gate_wanted hf (o := ⟨some d, op, tt, ps, af, g⟩) hg])]
 refine .inl ?_
 unfold Oper.wp
 rw [h a.eval (fun x u hx => hf.eval hx) m]
 exact (k m).go _ (w' m).drawn (hf.put (by simpa [Nat.blt_eq] using hd) v)

theorem WL.effN {op : Op} {w' : Nat → World} (hg : gate ops e g = some true)
  (h : ∀ (ρ : Operand → Value), (∀ x u, ev e x = some u → ρ x = u) → ∀ m, (execOp ρ ⟨none, op, tt, ps, af, g⟩).run P (at' w m) = .ok .skip (w' m))
  (k : ∀ m, WL P N ops.toArray l e (w' m) Q) : WL P N ops.toArray (⟨none, op, tt, ps, af, g⟩ :: l) e w Q := by
 refine ⟨fun a m hf => ?_⟩
 unfold wpList
 rw [if_pos (by rw [gate_wanted hf (o := ⟨none, op, tt, ps, af, g⟩) hg])]
 refine .inl ?_
 unfold Oper.wp
 rw [h a.eval (fun x u hx => hf.eval hx) m]
 exact (k m).go _ (w' m).drawn hf

theorem WL.append {x y : Operand} {a b : Option Addr} {n cap m c : Nat} {xs ys : List α} (hT : OkTab P T) (hE : Enc s enc) (hg : gate ops e g = some true) (hd : Nat.blt d N = true)
  (hx : ev e x = some (.slice a n cap)) (hy : ev e y = some (.slice b m c)) (ht : tget T t = some ti) (htd : ti.desc = .slice el) (he : tget T el = some ei) (hs : ei.size = s) (hz : ei.zero.cells.size = s)
  (ho : Own s enc el B w a cap xs) (hn : xs.length = n) (hr : Row s enc w b ys) (hm : ys.length = m) (hb : b ≠ none)
  (hbd : (n + m) * ei.bytes ≤ 140737488355328 ∧ n + m ≤ maxLen ∧ B ≤ w.heap.size)
  (k : ∀ a' cap' w', Own s enc el B w' a' cap' (xs ++ ys) → Upd B a w w' → (blk a' = blk a ∨ ∃ k, blk a' = some k ∧ w.heap.size ≤ k) → WL P N ops.toArray l ((d, .slice a' (xs ++ ys).length cap') :: e) w' Q) :
  WL P N ops.toArray (⟨some d, .call ⟨.builtin .append, ⟨[x, y]⟩, ⟨[t, t]⟩⟩, tt, ps, af, g⟩ :: l) e w Q := by
 refine ⟨fun ac q hf => ?_⟩
 unfold wpList
 rw [if_pos (by rw [gate_wanted hf (o := ⟨some d, .call ⟨.builtin .append, ⟨[x, y]⟩, ⟨[t, t]⟩⟩, tt, ps, af, g⟩) hg])]
 refine .inl ?_
 obtain ⟨j, hj1, hj2, hj3, hj4⟩ := (hT.at he).info
 have hti := (hT.at ht).1
 rw [htd] at hti
 obtain ⟨ad, rfl⟩ := Option.ne_none_iff_exists'.1 hb
 subst hn; subst hm
 have hnews : ∀ i u, (ys.flatMap enc)[i]? = some u → (at' w q).cell? (ad.add i) = some u := by
  intro i u hu
  have hpos := hE.pos
  have hlt : i < ys.length * s := by have := (List.getElem?_eq_some_iff.1 hu).1; rwa [length_flatMap' hE.len] at this
  have hdiv : i / s < ys.length := by rw [Nat.div_lt_iff_lt_mul hpos]; exact hlt
  have hyy : ys[i / s]? = some ys[i / s] := by simp [hdiv]
  obtain ⟨bb, off, hbb, hc⟩ := hr.elem _ _ hyy
  simp only [Option.some.injEq] at hbb
  subst hbb
  have hmod : i % s < s := Nat.mod_lt _ hpos
  have h1 := getElem?_flatMap' hE.len ys (i / s) (i % s) _ hyy hmod
  have h2 : i / s * s + i % s = i := by rw [Nat.mul_comm]; exact Nat.div_add_mod i s
  rw [h2, hu] at h1
  have key : ∀ (L : List Value) (o jj : Nat) (u : Value), Cells w bb o L → L[jj]? = some u → w.cell? ⟨bb, o + jj, none⟩ = some u := by
   intro L
   induction L with
   | nil => intro o jj u _ h; simp at h
   | cons v r ih =>
    intro o jj u hcc h
    cases jj with
    | zero => simp only [List.getElem?_cons_zero, Option.some.injEq] at h; subst h; exact hcc.1
    | succ jj => have := ih (o + 1) jj u hcc.2 (by simpa using h); rwa [show o + 1 + jj = o + (jj + 1) by omega] at this
  have := key _ _ _ u hc h1.symm
  rw [Addr_add_none]
  rw [show off + i / s * s + i % s = off + i by omega] at this
  exact this
 have hone : ∀ u ∈ ys.flatMap enc, u.oneCell' = true := by
  intro u hu
  obtain ⟨z, _, hz'⟩ := List.mem_flatMap.1 hu
  exact hE.one z u hz'
 obtain ⟨v', w', hrun, h2, h3, h4⟩ := run_append_own (P := P) (at' w q) B t tt el j ei.zero s ei.bytes hti hj1 hj4 (hj2.trans hs) hj3 hz hE.pos (.slice a xs.length cap) xs.length (xs.flatMap enc) ho ad ys.length c (ys.flatMap enc)
  (by rw [length_flatMap' hE.len]) hnews hone hbd.2.1 hbd.1 hbd.2.2
 have hv : ∃ a' cap', v' = .slice a' (xs ++ ys).length cap' ∧ (blk a' = blk a ∨ ∃ k, blk a' = some k ∧ w.heap.size ≤ k) := by
  have hmL : xs.length + ys.length ≤ 9223372036854775807 := by have := hbd.2.1; simp only [maxLen] at this; omega
  have hlY : (ys.flatMap enc).length = ys.length * j.size := by rw [length_flatMap' hE.len, hj2.trans hs]
  have hlX : (xs.flatMap enc).length = xs.length * j.size := by rw [length_flatMap' hE.len, hj2.trans hs]
  rcases ho.2 with ⟨h5, h6⟩ | ⟨gg, cc, cur, h5, h6, h7, h8, h9, h10, h11⟩
  ·simp only [Value.slice.injEq] at h5
   obtain ⟨rfl, _, rfl⟩ := h5
   obtain rfl : xs = [] := List.eq_nil_of_length_eq_zero h6
   by_cases hm0 : ys.length = 0
   ·have := h4.2 ⟨rfl, hm0⟩
    exact ⟨none, 0, by rw [this]; simp [hm0], .inl rfl⟩
   ·have hr := run_append_nil (P := P) (at' w q) t tt el j ei.zero hti hj1 hj4 ad ys.length c (ys.flatMap enc) hlY hnews (by omega) (by simp at hmL; omega) (by have := hbd.1; simp only [List.length_nil, Nat.zero_add] at this; rw [hj3]; omega)
    simp only [List.length_nil] at hrun
    rw [hr] at hrun
    simp only [Result.ok.injEq] at hrun
    refine ⟨some ⟨w.heap.size, 0, none⟩, _, by rw [← hrun.1]; simp; rfl, .inr ⟨w.heap.size, rfl, Nat.le_refl _⟩⟩
  ·simp only [Value.slice.injEq] at h5
   obtain ⟨rfl, _, rfl⟩ := h5
   by_cases hroom : xs.length + ys.length ≤ cap
   ·have hr := run_append_room (P := P) (at' w q) t tt el j hti hj1 gg xs.length cap cur h7 ad ys.length c (ys.flatMap enc) hlY hnews hone hroom (by rw [hlY, ← Nat.add_mul, h10, hj2.trans hs]; exact Nat.mul_le_mul_right _ hroom)
    rw [hr] at hrun
    simp only [Result.ok.injEq] at hrun
    exact ⟨some ⟨gg, 0, none⟩, cap, by rw [← hrun.1, List.length_append], .inl rfl⟩
   ·have holds : ∀ i u, (xs.flatMap enc)[i]? = some u → (at' w q).cell? ((⟨gg, 0, none⟩ : Addr).add i) = some u := World.ownsRow.cells (v := .slice (some ⟨gg, 0, none⟩) xs.length cap) (g := gg) ho rfl
    have hr := run_append_grow (P := P) (at' w q) t tt el j ei.zero hti hj1 hj4 ⟨gg, 0, none⟩ xs.length cap (xs.flatMap enc) hlX holds ad ys.length c (ys.flatMap enc) hlY hnews (by omega) (by omega) (growslice_fits (by omega) (by rw [hj3]; exact hbd.1))
    rw [hr] at hrun
    simp only [Result.ok.injEq] at hrun
    exact ⟨some ⟨w.heap.size, 0, none⟩, _, by rw [← hrun.1, List.length_append], .inr ⟨w.heap.size, rfl, Nat.le_refl _⟩⟩
 obtain ⟨a', cap', rfl, hfresh⟩ := hv
 unfold Oper.wp
 have hexec : (execOp ac.eval ⟨some d, .call ⟨.builtin .append, ⟨[x, y]⟩, ⟨[t, t]⟩⟩, tt, ps, af, g⟩).run P (at' w q) = .ok (.value (.slice a' (xs ++ ys).length cap')) w' := by
  simp only [execOp, resolve, invoke, builtin, Sem.run_bind, Sem.run_pure, Result.andThen_ok, List.map_toArray, List.map_cons, List.map_nil, hf.eval hx, hf.eval hy, hrun]
 rw [hexec]
 have hO : Own s enc el B w' a' cap' (xs ++ ys) := by
  unfold Own
  rw [List.flatMap_append, List.length_append] at *
  exact h2
 have hU : Upd B a w w' := ⟨⟨h3.os, h3.tape, h3.output, h3.size, by rw [ownBlock_slice] at h3; exact h3.block⟩, fun k hk => (ho.blk_lt k hk).1⟩
 exact (k a' cap' w' hO hU hfresh).go _ w'.drawn (hf.put (by simpa [Nat.blt_eq] using hd) _)

theorem WL.append1 {x y : Operand} {a : Option Addr} {gb n cap : Nat} {xs : List α} {z : α} {cs : List Value} {wo w0 : World} (hT : OkTab P T) (hE : Enc s enc) (hg : gate ops e g = some true) (hd : Nat.blt d N = true)
  (hx : ev e x = some (.slice a n cap)) (hy : ev e y = some (.slice (some ⟨gb, 0, none⟩) 1 1)) (ht : tget T t = some ti) (htd : ti.desc = .slice el) (he : tget T el = some ei) (hs : ei.size = s) (hz : ei.zero.cells.size = s) (hby : Nat.ble ei.bytes 1024 = true)
  (ho : Own s enc el B wo a cap xs) (hwo : Ext wo w) (hn : xs.length = n) (hc : Cells w gb 0 cs) (hcs : enc z = cs) (hB : w0.heap.size = B) (hX : Ext w0 w) (hbd : xs.length + 1 ≤ 137438953472)
  (k : ∀ a' cap' w', Own s enc el B w' a' cap' (xs ++ [z]) → Ext w0 w' → Upd B a w w' → (blk a' = blk a ∨ ∃ k, blk a' = some k ∧ w.heap.size ≤ k) → WL P N ops.toArray l ((d, .slice a' (xs ++ [z]).length cap') :: e) w' Q) :
  WL P N ops.toArray (⟨some d, .call ⟨.builtin .append, ⟨[x, y]⟩, ⟨[t, t]⟩⟩, tt, ps, af, g⟩ :: l) e w Q := by
 have hb' := Nat.le_of_ble_eq_true hby
 refine WL.append (B := B) (enc := enc) (ys := [z]) hT hE hg hd hx hy ht htd he hs hz (ho.ext hwo) hn ?_ rfl (by simp) ⟨?_, ?_, ?_⟩ ?_
 ·refine ⟨by simp, fun i q hq => ?_⟩
  cases i with
  | zero => simp only [List.getElem?_cons_zero, Option.some.injEq] at hq; subst hq; exact ⟨gb, 0, rfl, by rw [hcs]; simpa using hc⟩
  | succ i => simp at hq
 ·rw [← hn]; calc (xs.length + 1) * ei.bytes ≤ 137438953472 * 1024 := Nat.mul_le_mul hbd hb'
   _ ≤ _ := by decide
 ·rw [← hn]; simp only [maxLen]; omega
 ·rw [← hB]; exact hX.size
 ·intro a' cap' w' h1 h2 h3
  exact k a' cap' w' h1 (h2.ext hX (Nat.le_of_eq hB)) h2 h3

def fresh (w : World) (cs : Array Value) (el : TypeId) : World := w.alloc (.cells cs el)
theorem fresh_ext (w : World) (cs : Array Value) (el : TypeId) : Ext w (fresh w cs el) := (Below.refl _ _).alloc (Nat.le_refl _) _
theorem fresh_block (w : World) (cs : Array Value) (el : TypeId) : (fresh w cs el).heap[w.heap.size]? = some (.cells cs el (0, 0)) := heap_alloc_new w _
theorem fresh_cells (w : World) (cs : Array Value) (el : TypeId) : Cells (fresh w cs el) w.heap.size 0 cs.toList := by
 refine cells_of fun j u hj => ?_
 rw [Nat.zero_add]
 simp only [World.cell?, fresh_block]
 simpa using hj

theorem Own.fresh {α : Type} {s : Nat} {enc : α → List Value} {el : TypeId} {B : Nat} (hE : ∀ x, (enc x).length = s) (w : World) (l : List α) (hB : B ≤ w.heap.size) (hm : l.length ≤ maxLen) : Own s enc el B (fresh w (l.flatMap enc).toArray el) (some ⟨w.heap.size, 0, none⟩) l.length l := by
 have := World.ownsRow_lit (base := B) (e := el) (size := s) w (l.flatMap enc).toArray l.length hB hm (by simpa using length_flatMap' hE l)
 simpa [Own, Lt.fresh] using this

def evp (e : Env) : List (Nat × Operand) → Option (List (Nat × Value))
  | [] => some []
  | (i, x) :: r =>
    (match ev e x with
     | some v =>
       (match evp e r with
        | some vs => some ((i, v) :: vs)
        | none => none)
     | none => none)
theorem evp_map {e : Env} {ρ : Operand → Value} (hρ : ∀ x u, ev e x = some u → ρ x = u) : ∀ {l : List (Nat × Operand)} {vs : List (Nat × Value)}, evp e l = some vs → l.map (fun p => (p.1, ρ p.2)) = vs
 | [], vs, h => by simp [evp] at h; simp [h]
 | (i, x) :: r, vs, h => by
  unfold evp at h
  split at h
  ·rename_i v hv
   split at h
   ·rename_i us hus
    simp only [Option.some.injEq] at h; subst h
    simp [hρ _ _ hv, evp_map hρ hus]
   ·cases h
  ·cases h

def catCells : List (Nat × Value) → List Value
 | [] => []
 | (_, v) :: r => v.cells.toList ++ catCells r

theorem WL.lit {len : Nat} {parts : List (Nat × Operand)} {pvs : List (Nat × Value)} (hT : OkTab P T) (hg : gate ops e g = some true) (hd : Nat.blt d N = true) (ht : tget T t = some ti) (htd : ti.desc = .slice el) (he : tget T el = some ei)
  (hp : evp e parts = some pvs) (hfill : Instr.fill (fun i => some (i * ei.size, ei.size)) ((Array.range (len * ei.size)).map (fun i => ei.zero.cells[i % ei.zero.cells.size]!)) pvs = some (List.toArray (catCells pvs))) (hle : Nat.ble (len * ei.size) 16777216 = true)
  (k : ∀ gb w', w'.heap[gb]? = some (.cells (List.toArray (catCells pvs)) el (0, 0)) → w.heap.size ≤ gb → Cells w' gb 0 (catCells pvs) → Ext w w' → WL P N ops.toArray l ((d, .slice (some ⟨gb, 0, none⟩) len len) :: e) w' Q) :
  WL P N ops.toArray (⟨some d, .buildSlice t len ⟨parts⟩, tt, ps, af, g⟩ :: l) e w Q := by
 refine WL.eff (v := .slice (some ⟨w.heap.size, 0, none⟩) len len) (w' := fun m => fresh (at' w m) (List.toArray (catCells pvs)) el) hg hd ?_ (fun m => k _ _ (fresh_block (at' w m) _ el) (Nat.le_refl _) (by have := fresh_cells (at' w m) (List.toArray (catCells pvs)) el; simpa using this) ((Ext.refl w).at m |>.trans (fresh_ext _ _ _)))
 intro ρ hρ m
 have h1 := run_underlying' (hT.at ht); rw [htd] at h1
 have h2 := run_sizeOf' (hT.at he)
 have h3 := run_zeroValue' (hT.at he)
 have hle' : ¬ (16777216 < len * ei.size) := by have := Nat.le_of_ble_eq_true hle; omega
 have h4 := evp_map hρ hp
 have hrun : (Instr.buildSlice t len ⟨pvs⟩).run P (at' w m) = .ok (.slice (some ⟨w.heap.size, 0, none⟩) len len) (fresh (at' w m) (List.toArray (catCells pvs)) el) := by
  unfold Instr.buildSlice
  simp only [Sem.run_bind, h1, Result.andThen_ok, h2, Nat.reducePow, gt_iff_lt, hle', if_false, Sem.run_pure]
  by_cases h0 : len * ei.size = 0
  ·simp only [h0, if_true, Sem.run_pure, Result.andThen_ok]
   have hz : ∀ f : Nat → Value, (Array.range 0).map f = #[] := fun f => by simp
   rw [h0, hz] at hfill
   simp only [hz, hfill, Sem.run_bind, Sem.run_pure, Result.andThen_ok]
   simp [newRow, newObj, Sem.run, fresh]
   rfl
  ·simp only [h0, if_false, Sem.run_bind, h3, Result.andThen_ok, Sem.run_pure, hfill]
   simp [newRow, newObj, Sem.run, fresh]
   rfl
 simp [execOp, h4, hrun]

theorem WL.make {α : Type} {s : Nat} {enc : α → List Value} {x y : Operand} {kx ky : IntKind} {i : Int} {z : α} {w0 : World} (hT : OkTab P T) (hg : gate ops e g = some true) (hd : Nat.blt d N = true)
  (hx : ev e x = some (.int kx i)) (hy : ev e y = some (.int ky i)) (ht : tget T t = some ti) (htd : ti.desc = .slice el) (he : tget T el = some ei) (hs : ei.size = s) (hby : Nat.ble ei.bytes 1024 = true)
  (hE : Enc s enc) (hz : enc z = ei.zero.cells.toList) (hzs : ei.zero.cells.size = s) (hX : Ext w0 w) (hi : 0 ≤ i ∧ i ≤ 137438953472)
  (k : ∀ gb w', Own s enc el w0.heap.size w' (some ⟨gb, 0, none⟩) i.toNat (List.replicate i.toNat z) → w.heap.size ≤ gb → Ext w w' → WL P N ops.toArray l ((d, .slice (some ⟨gb, 0, none⟩) (List.replicate i.toNat z).length i.toNat) :: e) w' Q) :
  WL P N ops.toArray (⟨some d, .makeSlice t x y, tt, ps, af, g⟩ :: l) e w Q := by
 obtain ⟨n, rfl⟩ := Int.eq_ofNat_of_zero_le hi.1
 obtain ⟨j, hj1, hj2, hj3, hj4⟩ := (hT.at he).info
 have hti := (hT.at ht).1
 rw [htd] at hti
 have hb' := Nat.le_of_ble_eq_true hby
 have hn : n ≤ 137438953472 := by omega
 have hrep : madeCells ei.zero.cells (n * s) = ((List.replicate n z).flatMap enc).toArray := by
  apply Array.ext'
  simp only [madeCells, Array.toList_map, Array.toList_range]
  apply List.ext_getElem?
  intro q
  have hpos := hE.pos
  by_cases hq : q < n * s
  ·have hdiv : q / s < n := by rw [Nat.div_lt_iff_lt_mul hpos]; exact hq
   have hmod : q % s < s := Nat.mod_lt _ hpos
   have h1 := getElem?_flatMap' hE.len (List.replicate n z) (q / s) (q % s) z (by simp [hdiv]) hmod
   have h2 : q / s * s + q % s = q := by rw [Nat.mul_comm]; exact Nat.div_add_mod q s
   rw [h2] at h1
   rw [h1, hz]
   simp [hq, hzs, hmod]
  ·have h1 : ((List.replicate n z).flatMap enc).length = n * s := by rw [length_flatMap' hE.len]; simp
   rw [List.getElem?_eq_none (by simp; omega), List.getElem?_eq_none (by omega)]
 refine WL.eff (v := .slice (some ⟨w.heap.size, 0, none⟩) (List.replicate n z).length n) (w' := fun m => fresh (at' w m) ((List.replicate n z).flatMap enc).toArray el) hg hd ?_ (fun m => ?_)
 ·intro ρ hρ m
  have hr := run_make (P := P) (at' w m) t el j ei.zero hti hj1 hj4 kx ky (n : Int) (n : Int) (by omega) (by omega) (by
   rw [hj3]
   have : ((ei.bytes : Int)) ≤ 1024 := by omega
   calc (ei.bytes : Int) * (n : Int) ≤ 1024 * 137438953472 := Int.mul_le_mul this (by omega) (by omega) (by omega)
    _ ≤ _ := by decide) (by omega)
  have e1 : ((n : Int).toNat * j.size) = n * s := by rw [hj2, hs]; simp
  rw [e1, hrep] at hr
  simp only [Int.toNat_natCast] at hr
  simp [execOp, hρ _ _ hx, hρ _ _ hy, hr, fresh]
 ·have hO := Own.fresh (α := α) (enc := enc) (el := el) hE.len (at' w m) (List.replicate n z) (B := w0.heap.size) hX.size (by simp only [List.length_replicate, maxLen]; omega)
  simp only [List.length_replicate] at hO
  exact k w.heap.size _ hO (Nat.le_refl _) ((Ext.refl w).at m |>.trans (fresh_ext _ _ _))

theorem WL.alloc (hT : OkTab P T) (hg : gate ops e g = some true) (hd : Nat.blt d N = true) (ht : tget T t = some ti)
  (k : ∀ gb w', w'.heap[gb]? = some (.cells ti.zero.cells t (0, 0)) → w.heap.size ≤ gb → Ext w w' → WL P N ops.toArray l ((d, .pointer (some ⟨gb, 0, none⟩)) :: e) w' Q) :
  WL P N ops.toArray (⟨some d, .alloc t, tt, ps, af, g⟩ :: l) e w Q := by
 refine WL.eff (v := .pointer (some ⟨w.heap.size, 0, none⟩)) (w' := fun m => fresh (at' w m) ti.zero.cells t) hg hd ?_ (fun m => k _ _ (fresh_block (at' w m) _ t) (Nat.le_refl _) ((Ext.refl w).at m |>.trans (fresh_ext _ _ _)))
 intro ρ hρ m
 have h3 := run_zeroValue' (hT.at ht)
 simp [execOp, Instr.alloc, h3, newVar, newRow, newObj, Sem.run, fresh]
end rules
end Go.Lt
namespace Go.Lt
open Go.RowKit
set_option linter.unusedVariables false
set_option linter.unusedSimpArgs false

theorem flatMap_set' {α : Type} {s : Nat} {enc : α → List Value} (h : ∀ x, (enc x).length = s) (z' : α) : ∀ (xs : List α) (i : Nat), i < xs.length → (xs.set i z').flatMap enc = (xs.flatMap enc).take (i * s) ++ enc z' ++ (xs.flatMap enc).drop (i * s + s)
 | [], i, hi => by simp at hi
 | x :: r, 0, hi => by simp [List.drop_append, h x, (show (enc x).drop s = [] from List.drop_eq_nil_of_le (by rw [h x]; exact Nat.le_refl _))]
 | x :: r, i + 1, hi => by
  have ih := flatMap_set' h z' r i (by simpa using hi)
  have e1 : (i + 1) * s = (enc x).length + i * s := by rw [h, Nat.add_mul]; omega
  simp only [List.set_cons_succ, List.flatMap_cons, ih, e1]
  rw [List.take_append, List.drop_append]
  simp only [Nat.add_sub_cancel_left]
  rw [List.take_of_length_le (l := enc x) (by omega), List.drop_eq_nil_of_le (by omega : (enc x).length ≤ _)]
  rw [show (enc x).length + i * s + s - (enc x).length = i * s + s by omega]
  simp [List.append_assoc]

theorem splice_take (L cs : List Value) (q s M : Nat) (hcs : cs.length = s) (hq : q + s ≤ M) (hM : M ≤ L.length) : (L.take q ++ cs ++ L.drop (q + s)).take M = (L.take M).take q ++ cs ++ (L.take M).drop (q + s) := by
 rw [List.take_take, Nat.min_eq_left (by omega), List.drop_take, List.append_assoc, List.append_assoc, List.take_append, List.length_take, Nat.min_eq_left (by omega)]
 rw [List.take_of_length_le (l := L.take q) (by rw [List.length_take]; omega), List.take_append, hcs, List.take_of_length_le (l := cs) (by omega)]
 rw [show M - q - s = M - (q + s) by omega]

section
variable {P : Program}
theorem run_storeVar' {t : Nat} {i : TI} (h : i.Ok P t) (g q : Nat) (el : TypeId) (cur : Array Value) (w : World) (v : Value) (hg : w.heap[g]? = some (.cells cur el (0, 0))) (hs : v.cells.size = i.size) (hq : q + v.cells.size ≤ cur.size) (h1 : ∀ u ∈ v.cells.toList, u.oneCell' = true) :
  (storeVar t ⟨g, q, none⟩ v).run P w = .ok () (w.setRow g (cur.toList.take q ++ v.cells.toList ++ cur.toList.drop (q + v.cells.size)).toArray) := by
 have h2 := run_sizeOf' h
 have h3 := run_storeCells_at P g q el v.cells.toList 0 cur w hg (by simpa using hq) h1
 simp only [Nat.add_zero, Array.length_toList] at h3
 simp only [storeVar, Sem.run_bind, h2, Result.andThen_ok, hs, ne_eq, not_true_eq_false, if_false, Sem.run_pure]
 rw [hs] at h3
 simpa using h3
end

section rules
variable {P : Program} {N : Nat} {e : Env} {w : World} {Q : Exit → Act → World → Prop} {ops : List Oper} {l : List Oper} {T : Tab}
 {d : Nat} {tt : TypeId} {ps : String} {af : Array Edge} {g : Option (Nat × Bool)} {t : TypeId} {α : Type} {s : Nat} {enc : α → List Value} {B : Nat} {ti ei : TI} {el : TypeId}

theorem yindexO {C : World → Prop} {dd : Option Tmp} {x y : Operand} {a : Option Addr} {xs : List α} {n cap : Nat} {k : IntKind} {i : Int} {z : α} {wo : World} (hT : OkTab P T)
  (hx : ev e x = some (.slice a n cap)) (hy : ev e y = some (.int k i)) (ht : tget T t = some ti) (hd : ti.desc = .slice el) (he : tget T el = some ei) (hs : ei.size = s) (hE : Enc s enc)
  (ho : Own s enc el B wo a cap xs) (E : Ext wo w) (hn : xs.length = n) (h0 : 0 ≤ i) (hz : xs[i.toNat]? = some z) :
  ∃ gb, a = some ⟨gb, 0, none⟩ ∧ Cells w gb (i.toNat * s) (enc z) ∧ Yields P e ⟨dd, .indexAddr t x y, tt, ps, af, g⟩ (.pointer (some ⟨gb, i.toNat * s, none⟩)) := by
 obtain ⟨b, off, ha, hc⟩ := (ho.row hE).elem _ _ hz
 have hoff : off = 0 := by
  rcases ho.2 with ⟨h1, _⟩ | ⟨g', c', cur, h1, _⟩
  ·rw [ha] at h1; simp at h1
  ·rw [ha] at h1; simp only [Value.slice.injEq, Option.some.injEq, Addr.mk.injEq] at h1; exact h1.1.2.1
 subst hoff
 refine ⟨b, ha, by simpa using hc.ext E, ?_⟩
 intro ρ hρ w'
 have hlt : i.toNat < xs.length := (List.getElem?_eq_some_iff.1 hz).1
 have h1 := run_underlying' (hT.at ht); rw [hd] at h1
 have h2 := run_sizeOf' (hT.at he); rw [hs] at h2
 have h3 : i < (n : Int) := by omega
 subst ha
 simp [execOp, hρ _ _ hx, hρ _ _ hy, Instr.indexAt, asIntOf, h1, h2, h0, h3, Addr_add_none]

theorem WL.indexO {x y : Operand} {a : Option Addr} {xs : List α} {n cap : Nat} {kk : IntKind} {i : Int} {z : α} {wo : World} (hT : OkTab P T) (hg : gate ops e g = some true) (hd : Nat.blt d N = true)
  (hx : ev e x = some (.slice a n cap)) (hy : ev e y = some (.int kk i)) (ht : tget T t = some ti) (htd : ti.desc = .slice el) (he : tget T el = some ei) (hs : ei.size = s)
  (ho : Own s enc el B wo a cap xs) (E : Ext wo w) (hE : Enc s enc) (hn : xs.length = n) (h0 : 0 ≤ i) (hz : xs[i.toNat]? = some z)
  (k : ∀ gb, a = some ⟨gb, 0, none⟩ → Cells w gb (i.toNat * s) (enc z) → WL P N ops.toArray l ((d, .pointer (some ⟨gb, i.toNat * s, none⟩)) :: e) w Q) : WL P N ops.toArray (⟨some d, .indexAddr t x y, tt, ps, af, g⟩ :: l) e w Q := by
 obtain ⟨gb, ha, hc, hy'⟩ := yindexO (P := P) (dd := some d) (C := Same w) (t := t) (tt := tt) (x := x) (y := y) (ps := ps) (af := af) (g := g) hT hx hy ht htd he hs hE ho E hn h0 hz
 exact WL.step hg hd hy'.in (k gb ha hc)
theorem SL.indexO {K : Act → World → Prop} {x y : Operand} {a : Option Addr} {xs : List α} {n cap : Nat} {kk : IntKind} {i : Int} {z : α} {wo : World} (hT : OkTab P T) (hg : gate ops e g = some true) (hd : Nat.blt d N = true)
  (hx : ev e x = some (.slice a n cap)) (hy : ev e y = some (.int kk i)) (ht : tget T t = some ti) (htd : ti.desc = .slice el) (he : tget T el = some ei) (hs : ei.size = s)
  (ho : Own s enc el B wo a cap xs) (E : Ext wo w) (hE : Enc s enc) (hn : xs.length = n) (h0 : 0 ≤ i) (hz : xs[i.toNat]? = some z)
  (k : ∀ gb, a = some ⟨gb, 0, none⟩ → Cells w gb (i.toNat * s) (enc z) → SL P N ops.toArray l ((d, .pointer (some ⟨gb, i.toNat * s, none⟩)) :: e) w K) : SL P N ops.toArray (⟨some d, .indexAddr t x y, tt, ps, af, g⟩ :: l) e w K := by
 obtain ⟨gb, ha, hc, hy'⟩ := yindexO (P := P) (dd := some d) (C := Same w) (t := t) (tt := tt) (x := x) (y := y) (ps := ps) (af := af) (g := g) hT hx hy ht htd he hs hE ho E hn h0 hz
 exact SL.step hg hd hy'.in (k gb ha hc)
theorem QL.indexO {C : World → Prop} [Cls C w] {x y : Operand} {a : Option Addr} {xs : List α} {n cap : Nat} {kk : IntKind} {i : Int} {z : α} {wo : World} (hT : OkTab P T) (hg : gate ops e g = some true) (hd : Nat.blt d N = true)
  (hx : ev e x = some (.slice a n cap)) (hy : ev e y = some (.int kk i)) (ht : tget T t = some ti) (htd : ti.desc = .slice el) (he : tget T el = some ei) (hs : ei.size = s)
  (ho : Own s enc el B wo a cap xs) (E : Ext wo w) (hE : Enc s enc) (hn : xs.length = n) (h0 : 0 ≤ i) (hz : xs[i.toNat]? = some z)
  (k : ∀ gb, a = some ⟨gb, 0, none⟩ → Cells w gb (i.toNat * s) (enc z) → QL P N C ops.toArray l ((d, .pointer (some ⟨gb, i.toNat * s, none⟩)) :: e) Q) : QL P N C ops.toArray (⟨some d, .indexAddr t x y, tt, ps, af, g⟩ :: l) e Q := by
 obtain ⟨gb, ha, hc, hy'⟩ := yindexO (P := P) (dd := some d) (C := C) (t := t) (tt := tt) (x := x) (y := y) (ps := ps) (af := af) (g := g) hT hx hy ht htd he hs hE ho E hn h0 hz
 exact QL.step hg hd hy'.in (k gb ha hc)

theorem WL.storeO {x y : Operand} {gb q i cap : Nat} {v : Value} {xs : List α} {z z' : α} {wo w0 : World} (hT : OkTab P T) (hg : gate ops e g = some true)
  (hx : ev e x = some (.pointer (some ⟨gb, q, none⟩))) (hy : ev e y = some v) (ht : tget T t = some ei)
  (ho : Own s enc el B wo (some ⟨gb, 0, none⟩) cap xs) (hwo : Ext wo w) (hq : q = i * s) (hv : enc z' = v.cells.toList) (hs : ei.size = s) (hE : Enc s enc) (hz : xs[i]? = some z) (hB : w0.heap.size = B) (hX : Ext w0 w)
  (k : ∀ w', Own s enc el B w' (some ⟨gb, 0, none⟩) cap (xs.set i z') → Ext w0 w' → Upd B (some ⟨gb, 0, none⟩) w w' → WL P N ops.toArray l e w' Q) :
  WL P N ops.toArray (⟨none, .store t x y, tt, ps, af, g⟩ :: l) e w Q := by
 subst hq
 have hi : i < xs.length := (List.getElem?_eq_some_iff.1 hz).1
 have ho' := ho.ext hwo
 have hO := ho'
 rcases ho'.2 with ⟨h1, _⟩ | ⟨g', c', cur, h1, h2, h3, h4, h5, h6, h7⟩
 ·simp at h1
 simp only [Value.slice.injEq, Option.some.injEq, Addr.mk.injEq, and_true, true_and] at h1
 obtain ⟨rfl, rfl⟩ := h1
 have hvs : v.cells.size = s := by have := congrArg List.length hv; rw [hE.len] at this; simpa using this.symm
 have hle : i * s + s ≤ xs.length * s := by rw [← Nat.succ_mul]; exact Nat.mul_le_mul_right s hi
 have hle2 : xs.length * s ≤ cap * s := Nat.mul_le_mul_right s h4
 have hone : ∀ u ∈ v.cells.toList, u.oneCell' = true := fun u hu => hE.one z' u (by rw [hv]; exact hu)
 refine WL.effN (w' := fun m => (at' w m).setRow gb (cur.toList.take (i * s) ++ v.cells.toList ++ cur.toList.drop (i * s + v.cells.size)).toArray) hg ?_ (fun m => ?_)
 ·intro ρ hρ m
  have hr := run_storeVar' (hT.at ht) gb (i * s) el cur (at' w m) v h3 (hvs.trans hs.symm) (by rw [hvs, h6]; omega) hone
  simp [execOp, hρ _ _ hx, hρ _ _ hy, Instr.storeAt, Instr.sureAddr, hr]
 ·have hU : Upd B (some ⟨gb, 0, none⟩) w ((at' w m).setRow gb (cur.toList.take (i * s) ++ v.cells.toList ++ cur.toList.drop (i * s + v.cells.size)).toArray) :=
   ⟨⟨rfl, rfl, rfl, by simp [World.setRow], fun k hk hne => setRow_other (at' w m) gb k _ (fun hh => hne (by rw [hh]; rfl))⟩, fun k hk => (hO.blk_lt k hk).1⟩
  refine k _ ?_ (hU.ext hX (Nat.le_of_eq hB)) hU
  refine ⟨by rw [length_flatMap' hE.len], .inr ⟨gb, cap, _, rfl, h2, setRow_heap (at' w m) gb cur _ el _ h3, by simpa using h4, h5, ?_, ?_⟩⟩
  ·have := cur.size
   simp only [List.size_toArray, List.length_append, List.length_take, List.length_drop, Array.length_toList, hvs, h6]
   omega
  ·simp only [List.length_set]
   rw [hvs, splice_take cur.toList v.cells.toList (i * s) s (xs.length * s) (by simpa using hvs) hle (by simp [h6]; exact hle2), h7, flatMap_set' hE.len z' xs i hi, hv]

theorem WL.storeB {x y : Operand} {gb : Nat} {v : Value} {cur : Array Value} {el : TypeId} {w0 wo : World} (hT : OkTab P T) (hg : gate ops e g = some true)
  (hx : ev e x = some (.pointer (some ⟨gb, 0, none⟩))) (hy : ev e y = some v) (ht : tget T t = some ei)
  (hb : wo.heap[gb]? = some (.cells cur el (0, 0))) (hwo : Ext wo w) (hs : Nat.beq v.cells.size ei.size = true) (hs2 : Nat.beq cur.size ei.size = true) (h1 : (v.cells.toList.all (·.oneCell')) = true) (hX : Ext w0 w) (hB : w0.heap.size ≤ gb)
  (k : ∀ w', w'.heap[gb]? = some (.cells v.cells el (0, 0)) → Cells w' gb 0 v.cells.toList → Ext w0 w' → Upd gb (some ⟨gb, 0, none⟩) w w' → WL P N ops.toArray l e w' Q) :
  WL P N ops.toArray (⟨none, .store t x y, tt, ps, af, g⟩ :: l) e w Q := by
 have hs' := Nat.eq_of_beq_eq_true hs
 have hs2' := Nat.eq_of_beq_eq_true hs2
 have hbw : w.heap[gb]? = some (.cells cur el (0, 0)) := by rw [hwo.block gb (Array.getElem?_eq_some_iff.1 hb).1]; exact hb
 have hcur : (cur.toList.take 0 ++ v.cells.toList ++ cur.toList.drop (0 + v.cells.size)).toArray = v.cells := by
  rw [List.drop_eq_nil_of_le (by simp; omega)]; simp
 refine WL.effN (w' := fun m => (at' w m).setRow gb v.cells) hg ?_ (fun m => ?_)
 ·intro ρ hρ m
  have hr := run_storeVar' (hT.at ht) gb 0 el cur (at' w m) v hbw hs' (by omega) (fun u hu => List.all_eq_true.1 h1 u hu)
  rw [hcur] at hr
  simp [execOp, hρ _ _ hx, hρ _ _ hy, Instr.storeAt, Instr.sureAddr, hr]
 ·have hU : Upd gb (some ⟨gb, 0, none⟩) w ((at' w m).setRow gb v.cells) :=
   ⟨⟨rfl, rfl, rfl, by simp [World.setRow], fun k hk hne => setRow_other (at' w m) gb k _ (fun hh => hne (by rw [hh]; rfl))⟩, fun k hk => by simp only [blk, Option.map_some, Option.some.injEq] at hk; omega⟩
  have hh := setRow_heap (at' w m) gb cur v.cells el _ hbw
  refine k _ hh ?_ (hU.ext hX hB) hU
  refine cells_of fun j u hj => ?_
  rw [Nat.zero_add]
  simp only [World.cell?, hh]
  simpa using hj
end rules
end Go.Lt
namespace Go.Lt
open Go.RowKit
set_option linter.unusedVariables false
set_option linter.unusedSimpArgs false
section rules
variable {P : Program} {N : Nat} {e : Env} {w : World} {Q : Exit → Act → World → Prop} {ops : List Oper} {l : List Oper} {T : Tab}
 {d : Nat} {tt : TypeId} {ps : String} {af : Array Edge} {g : Option (Nat × Bool)}

theorem WL.at {ops : Array Oper} {m : Nat} (h : WL P N ops l e w Q) : WL P N ops l e (at' w m) Q := ⟨fun a n hf => h.go a n hf⟩
theorem Z.at {x : Exit} {m : Nat} (h : Z N Q x e w) : Z N Q x e (at' w m) := ⟨fun a n hf => h.go a n hf⟩
theorem Still.at {f : FuncId} {args : List Value} {v : Value} (h : Still P f args w v) (m : Nat) : Still P f args (at' w m) v := ⟨h.1, fun n => h.2 n⟩

theorem WL.callS {f : FuncId} {args : List Operand} {ts : Array TypeId} {c : Operand} {us vs : List Value} {v : Value}
  (hg : gate ops e g = some true) (hd : Nat.blt d N = true) (hc : ev e c = some (.func (.func f) #[] us.toArray)) (hv : evs e args = some vs)
  (h : Still P f (vs ++ us) w v) (k : WL P N ops.toArray l ((d, v) :: e) w Q) : WL P N ops.toArray (⟨some d, .call ⟨.value c, args.toArray, ts⟩, tt, ps, af, g⟩ :: l) e w Q :=
 WL.call hg hd hc hv h fun u w' ⟨hu, m, hw⟩ => by subst hu; subst hw; exact k.at
theorem WL.callP {f : FuncId} {args : List Operand} {ts : Array TypeId} {c : Operand} {us vs : List Value} {v : Value}
  (hg : gate ops e g = some true) (hd : Nat.blt d N = true) (hc : ev e c = some (.func (.func f) #[] us.toArray)) (hv : evs e args = some vs)
  (h : Pure P f (vs ++ us) w v) (k : ∀ w', Ext w w' → WL P N ops.toArray l ((d, v) :: e) w' Q) : WL P N ops.toArray (⟨some d, .call ⟨.value c, args.toArray, ts⟩, tt, ps, af, g⟩ :: l) e w Q :=
 WL.call hg hd hc hv h fun u w' ⟨hu, hw⟩ => by subst hu; exact k w' hw
theorem QL.callS {f : FuncId} {args : List Operand} {ts : Array TypeId} {c : Operand} {us vs : List Value} {v : Value}
  (hg : gate ops e g = some true) (hd : Nat.blt d N = true) (hc : ev e c = some (.func (.func f) #[] us.toArray)) (hv : evs e args = some vs)
  (h : Still P f (vs ++ us) w v) (k : QL P N (Same w) ops.toArray l ((d, v) :: e) Q) : QL P N (Same w) ops.toArray (⟨some d, .call ⟨.value c, args.toArray, ts⟩, tt, ps, af, g⟩ :: l) e Q :=
 QL.call hg hd hc hv (quiet_same fun w' ⟨m, hw⟩ => by subst hw; exact h.at m) k
theorem QL.callP {f : FuncId} {args : List Operand} {ts : Array TypeId} {c : Operand} {us vs : List Value} {v : Value}
  (hg : gate ops e g = some true) (hd : Nat.blt d N = true) (hc : ev e c = some (.func (.func f) #[] us.toArray)) (hv : evs e args = some vs)
  (h : ∀ w', Ext w w' → Pure P f (vs ++ us) w' v) (k : QL P N (Ext w) ops.toArray l ((d, v) :: e) Q) : QL P N (Ext w) ops.toArray (⟨some d, .call ⟨.value c, args.toArray, ts⟩, tt, ps, af, g⟩ :: l) e Q :=
 QL.call hg hd hc hv (quiet_ext h) k
end rules

section known
variable {P : Program} {N : Nat} {e : Env} {w : World} {Q : Exit → Act → World → Prop} {K : Act → World → Prop} {C : World → Prop} {ops : List Oper} {l : List Oper}
theorem WL.gT {o : Option Tmp} {op : Op} {tt : TypeId} {ps : String} {af : Array Edge} {j : Nat} {g : Bool} {d : Nat} {b : Bool} (hj : dstAt ops j = some d) (hd : get e d = some (.bool b)) (hb : b = true)
  (k : WL P N ops.toArray (⟨o, op, tt, ps, af, some (j, g)⟩ :: l) ((d, .bool true) :: e) w Q) : WL P N ops.toArray (⟨o, op, tt, ps, af, some (j, g)⟩ :: l) e w Q :=
 WL.split hd (fun h => k) (fun h => absurd (h.symm.trans hb) (by decide))
theorem WL.gF {o : Option Tmp} {op : Op} {tt : TypeId} {ps : String} {af : Array Edge} {j : Nat} {g : Bool} {d : Nat} {b : Bool} (hj : dstAt ops j = some d) (hd : get e d = some (.bool b)) (hb : b = false)
  (k : WL P N ops.toArray (⟨o, op, tt, ps, af, some (j, g)⟩ :: l) ((d, .bool false) :: e) w Q) : WL P N ops.toArray (⟨o, op, tt, ps, af, some (j, g)⟩ :: l) e w Q :=
 WL.split hd (fun h => absurd (h.symm.trans hb) (by decide)) (fun h => k)
theorem QL.gT {o : Option Tmp} {op : Op} {tt : TypeId} {ps : String} {af : Array Edge} {j : Nat} {g : Bool} {d : Nat} {b : Bool} (hj : dstAt ops j = some d) (hd : get e d = some (.bool b)) (hb : b = true)
  (k : QL P N C ops.toArray (⟨o, op, tt, ps, af, some (j, g)⟩ :: l) ((d, .bool true) :: e) Q) : QL P N C ops.toArray (⟨o, op, tt, ps, af, some (j, g)⟩ :: l) e Q :=
 QL.split hd (fun h => k) (fun h => absurd (h.symm.trans hb) (by decide))
theorem QL.gF {o : Option Tmp} {op : Op} {tt : TypeId} {ps : String} {af : Array Edge} {j : Nat} {g : Bool} {d : Nat} {b : Bool} (hj : dstAt ops j = some d) (hd : get e d = some (.bool b)) (hb : b = false)
  (k : QL P N C ops.toArray (⟨o, op, tt, ps, af, some (j, g)⟩ :: l) ((d, .bool false) :: e) Q) : QL P N C ops.toArray (⟨o, op, tt, ps, af, some (j, g)⟩ :: l) e Q :=
 QL.split hd (fun h => absurd (h.symm.trans hb) (by decide)) (fun h => k)
theorem SL.gT {o : Option Tmp} {op : Op} {tt : TypeId} {ps : String} {af : Array Edge} {j : Nat} {g : Bool} {d : Nat} {b : Bool} (hj : dstAt ops j = some d) (hd : get e d = some (.bool b)) (hb : b = true)
  (k : SL P N ops.toArray (⟨o, op, tt, ps, af, some (j, g)⟩ :: l) ((d, .bool true) :: e) w K) : SL P N ops.toArray (⟨o, op, tt, ps, af, some (j, g)⟩ :: l) e w K :=
 SL.split hd (fun h => k) (fun h => absurd (h.symm.trans hb) (by decide))
theorem SL.gF {o : Option Tmp} {op : Op} {tt : TypeId} {ps : String} {af : Array Edge} {j : Nat} {g : Bool} {d : Nat} {b : Bool} (hj : dstAt ops j = some d) (hd : get e d = some (.bool b)) (hb : b = false)
  (k : SL P N ops.toArray (⟨o, op, tt, ps, af, some (j, g)⟩ :: l) ((d, .bool false) :: e) w K) : SL P N ops.toArray (⟨o, op, tt, ps, af, some (j, g)⟩ :: l) e w K :=
 SL.split hd (fun h => absurd (h.symm.trans hb) (by decide)) (fun h => k)
theorem W.condKT {c : Operand} {x y : Code} {b : Bool} (hc : ev e c = some (.bool b)) (hb : b = true) (h : W P N x e w Q) : W P N (.cond c x y) e w Q := by subst hb; exact W.condT hc h
theorem W.condKF {c : Operand} {x y : Code} {b : Bool} (hc : ev e c = some (.bool b)) (hb : b = false) (h : W P N y e w Q) : W P N (.cond c x y) e w Q := by subst hb; exact W.condF hc h
end known

def IsFresh {α : Type} (s : Nat) (enc : α → List Value) (el : TypeId) (w : World) (L : List α) (v : Value) (w' : World) : Prop :=
 Ext w w' ∧ ∃ a cap, v = .slice a L.length cap ∧ Own s enc el w.heap.size w' a cap L

abbrev encI : Int → List Value := fun n => [.int .i64 n]
abbrev encB : Bool → List Value := fun n => [.bool n]
abbrev encN : Int × Int → List Value := fun x => [.int .i64 x.1, .int .i64 x.2]
theorem encI_ok : Enc 1 encI := ⟨fun _ => rfl, fun x u hu => by simp at hu; subst hu; rfl, by decide⟩
theorem encB_ok : Enc 1 encB := ⟨fun _ => rfl, fun x u hu => by simp at hu; subst hu; rfl, by decide⟩
theorem encN_ok : Enc 2 encN := ⟨fun _ => rfl, fun x u hu => by simp at hu; rcases hu with rfl | rfl <;> rfl, by decide⟩
end Go.Lt
namespace Go.Lt
open Go.RowKit
set_option linter.unusedVariables false
set_option linter.unusedSimpArgs false

def xor1 (a : Int) : Int := if a % 2 = 0 then a + 1 else a - 1

theorem toNat_ofInt64 (a : Int) (h0 : 0 ≤ a) (h1 : a ≤ 9223372036854775807) : (BitVec.ofInt 64 a).toNat = a.toNat := by
 rw [BitVec.toNat_ofInt]
 have : a % (2 ^ 64 : Nat) = a := Int.emod_eq_of_lt h0 (by omega)
 rw [this]

theorem and1_eq (a : Int) (h : 0 ≤ a ∧ a ≤ 9223372036854775807) : IntKind.i64.wrap (BitVec.ofInt IntKind.i64.bits a &&& BitVec.ofInt IntKind.i64.bits 1).toNat = a % 2 := by
 show IntKind.i64.wrap (BitVec.ofInt 64 a &&& BitVec.ofInt 64 1).toNat = a % 2
 rw [BitVec.toNat_and, toNat_ofInt64 a h.1 h.2, toNat_ofInt64 1 (by omega) (by omega)]
 show IntKind.i64.wrap ((a.toNat &&& 1 : Nat) : Int) = _
 rw [Nat.and_one_is_mod, IntWalk.i64_in _ (by omega)]
 omega

theorem xor1_eq (a : Int) (h : 0 ≤ a ∧ a ≤ 9223372036854775806) : IntKind.i64.wrap (BitVec.ofInt IntKind.i64.bits a ^^^ BitVec.ofInt IntKind.i64.bits 1).toNat = xor1 a := by
 show IntKind.i64.wrap (BitVec.ofInt 64 a ^^^ BitVec.ofInt 64 1).toNat = xor1 a
 rw [BitVec.toNat_xor, toNat_ofInt64 a h.1 (by omega), toNat_ofInt64 1 (by omega) (by omega)]
 show IntKind.i64.wrap ((a.toNat ^^^ 1 : Nat) : Int) = _
 have key : ∀ n : Nat, n ^^^ 1 = if n % 2 = 0 then n + 1 else n - 1 := by
  intro n
  apply Nat.eq_of_testBit_eq
  intro i
  rcases Nat.mod_two_eq_zero_or_one n with hn | hn
  ·obtain ⟨q, rfl⟩ : ∃ q, n = 2 * q := ⟨n / 2, by omega⟩
   rw [if_pos (by omega)]
   cases i with
   | zero => simp [Nat.testBit_zero]
   | succ i =>
    rw [Nat.testBit_xor, Nat.testBit_succ, Nat.testBit_succ, Nat.testBit_succ]
    have e1 : (2 * q) / 2 = q := by omega
    have e2 : (2 * q + 1) / 2 = q := by omega
    rw [e1, e2]; simp
  ·obtain ⟨q, rfl⟩ : ∃ q, n = 2 * q + 1 := ⟨n / 2, by omega⟩
   rw [if_neg (by omega)]
   cases i with
   | zero => simp [Nat.testBit_zero]
   | succ i =>
    rw [Nat.testBit_xor, Nat.testBit_succ, Nat.testBit_succ, Nat.testBit_succ]
    have e1 : (2 * q + 1) / 2 = q := by omega
    have e2 : (2 * q + 1 - 1) / 2 = q := by omega
    rw [e1, e2]; simp
 rw [key, IntWalk.i64_in _ (by split <;> omega)]
 unfold xor1
 split <;> split <;> omega

section more
variable {P : Program} {e : Env} {dd : Option Tmp} {t ty tt : TypeId} {x y : Operand} {ps : String} {af : Array Edge} {g : Option (Nat × Bool)} {a b : Int}
theorem yand1 (hx : ev e x = some (.int .i64 a)) (hy : ev e y = some (.int .i64 1)) (h : 0 ≤ a ∧ a ≤ 9223372036854775807) : Yields P e ⟨dd, .binOp .and t x y ty, tt, ps, af, g⟩ (.int .i64 (a % 2)) := by
 have := Yields.bin (P := P) (d := dd) (op := .and) (t := t) (ty := ty) (tt := tt) (ps := ps) (af := af) (g := g) hx hy (v := .int .i64 (IntKind.i64.wrap (BitVec.ofInt IntKind.i64.bits a &&& BitVec.ofInt IntKind.i64.bits 1).toNat)) rfl
 rwa [and1_eq a h] at this
theorem yxor1 (hx : ev e x = some (.int .i64 a)) (hy : ev e y = some (.int .i64 1)) (h : 0 ≤ a ∧ a ≤ 9223372036854775806) : Yields P e ⟨dd, .binOp .xor t x y ty, tt, ps, af, g⟩ (.int .i64 (xor1 a)) := by
 have := Yields.bin (P := P) (d := dd) (op := .xor) (t := t) (ty := ty) (tt := tt) (ps := ps) (af := af) (g := g) hx hy (v := .int .i64 (IntKind.i64.wrap (BitVec.ofInt IntKind.i64.bits a ^^^ BitVec.ofInt IntKind.i64.bits 1).toNat)) rfl
 rwa [xor1_eq a h] at this
theorem yshr {k j : IntKind} {n : Nat} (hx : ev e x = some (.int k a)) (hy : ev e y = some (.int j (n : Int))) (h : n ≤ k.bits) : Yields P e ⟨dd, .binOp .shr t x y ty, tt, ps, af, g⟩ (.int k (a / 2 ^ n)) := by
 intro ρ hρ w
 have hp : (0 : Int) ≤ 2 ^ n := Int.pow_nonneg (by omega)
 have hmin : min n k.bits = n := Nat.min_eq_left h
 have hneg : ¬ ((n : Int) < 0) := by omega
 have hrun : (binOp .shr t (.int k a) (.int j (n : Int))).run P w = .ok (.int k (a / 2 ^ n)) w := by
  simp only [binOp, Op.shift, hneg, if_false, Int.toNat_natCast, hmin, Sem.run_pure]
  rw [Int.fdiv_eq_ediv_of_nonneg _ hp]
 simp [execOp, hρ _ _ hx, hρ _ _ hy, eqGuard_int, hrun]

theorem run_sliceH {T : Tab} (hT : OkTab P T) {ti : TI} {el : TypeId} {ei : TI} {ao : Option Addr} {n cap : Nat} {k : IntKind} {h : Int} (ht : tget T t = some ti) (htd : ti.desc = .slice el) (he : tget T el = some ei) (h0 : 0 ≤ h ∧ h ≤ cap) (w : World) :
  (Instr.sliceAt t (.slice ao n cap) none (some (.int k h)) none).run P w = .ok (.slice ao h.toNat cap) w := by
 have h1 := run_underlying' (hT.at ht); rw [htd] at h1
 have h2 := run_sizeOf' (hT.at he)
 have ha : (if cap = 0 then ao else ao.map (·.add 0)) = ao := by
  have : ao.map (·.add 0) = ao := by cases ao <;> simp [Addr.add]
  rw [this]; simp
 simp [Instr.sliceAt, Instr.slice, h1, h2, Instr.sliceBounds, Instr.sliceBound, asIntOf, h0.1, h0.2]
 first | exact ha | (intro _; cases ao <;> simp [Addr.add])
theorem run_sliceL {T : Tab} (hT : OkTab P T) {ti : TI} {el : TypeId} {ei : TI} {ao : Option Addr} {n cap : Nat} {k : IntKind} {h : Int} (ht : tget T t = some ti) (htd : ti.desc = .slice el) (he : tget T el = some ei) (h0 : 0 ≤ h ∧ h ≤ n) (w : World) :
  (Instr.sliceAt t (.slice ao n cap) (some (.int k h)) none none).run P w = .ok (.slice (if cap = h.toNat then ao else ao.map (·.add (h.toNat * ei.size))) (n - h.toNat) (cap - h.toNat)) w := by
 have h1 := run_underlying' (hT.at ht); rw [htd] at h1
 have h2 := run_sizeOf' (hT.at he)
 simp [Instr.sliceAt, Instr.slice, h1, h2, Instr.sliceBounds, Instr.sliceBound, asIntOf, h0.1, h0.2]
end more

theorem Row.take {α : Type} {s : Nat} {enc : α → List Value} {w : World} {a : Option Addr} {l : List α} (h : Row s enc w a l) (n : Nat) : Row s enc w a (l.take n) := by
 refine ⟨by have := h.len; rw [List.length_take]; omega, fun i x hi => ?_⟩
 rw [List.getElem?_take] at hi
 split at hi
 ·exact h.elem i x hi
 ·cases hi
theorem Row.dropAt {α : Type} {s : Nat} {enc : α → List Value} {w : World} {a : Option Addr} {l : List α} (h : Row s enc w a l) (n cap : Nat) (hc : l.length ≤ cap) : Row s enc w (if cap = n then a else a.map (·.add (n * s))) (l.drop n) := by
 refine ⟨by have := h.len; rw [List.length_drop]; omega, fun i x hi => ?_⟩
 rw [List.getElem?_drop] at hi
 obtain ⟨b, off, ha, hcells⟩ := h.elem _ _ hi
 have hlt : n + i < l.length := (List.getElem?_eq_some_iff.1 hi).1
 rw [if_neg (by omega), ha]
 exact ⟨b, off + n * s, by simp [Addr_add_none], by rw [Nat.add_mul] at hcells; rwa [Nat.add_assoc]⟩

section rules
variable {P : Program} {N : Nat} {e : Env} {w : World} {Q : Exit → Act → World → Prop} {ops : List Oper} {l : List Oper} {T : Tab}
 {d : Nat} {tt ty : TypeId} {ps : String} {af : Array Edge} {g : Option (Nat × Bool)} {t : TypeId} {α : Type} {s : Nat} {enc : α → List Value} {B : Nat} {ti ei : TI} {el : TypeId} {C : World → Prop}

theorem WL.and1 {x y : Operand} {a : Int} (hg : gate ops e g = some true) (hd : Nat.blt d N = true) (hx : ev e x = some (.int .i64 a)) (hy : ev e y = some (.int .i64 1)) (h : 0 ≤ a ∧ a ≤ 9223372036854775807) (k : WL P N ops.toArray l ((d, .int .i64 (a % 2)) :: e) w Q) : WL P N ops.toArray (⟨some d, .binOp .and t x y ty, tt, ps, af, g⟩ :: l) e w Q := WL.step hg hd (yand1 hx hy h).in k
theorem QL.and1 {x y : Operand} {a : Int} (hg : gate ops e g = some true) (hd : Nat.blt d N = true) (hx : ev e x = some (.int .i64 a)) (hy : ev e y = some (.int .i64 1)) (h : 0 ≤ a ∧ a ≤ 9223372036854775807) (k : QL P N C ops.toArray l ((d, .int .i64 (a % 2)) :: e) Q) : QL P N C ops.toArray (⟨some d, .binOp .and t x y ty, tt, ps, af, g⟩ :: l) e Q := QL.step hg hd (yand1 hx hy h).in k
theorem WL.xor1 {x y : Operand} {a : Int} (hg : gate ops e g = some true) (hd : Nat.blt d N = true) (hx : ev e x = some (.int .i64 a)) (hy : ev e y = some (.int .i64 1)) (h : 0 ≤ a ∧ a ≤ 9223372036854775806) (k : WL P N ops.toArray l ((d, .int .i64 (Lt.xor1 a)) :: e) w Q) : WL P N ops.toArray (⟨some d, .binOp .xor t x y ty, tt, ps, af, g⟩ :: l) e w Q := WL.step hg hd (yxor1 hx hy h).in k
theorem QL.xor1 {x y : Operand} {a : Int} (hg : gate ops e g = some true) (hd : Nat.blt d N = true) (hx : ev e x = some (.int .i64 a)) (hy : ev e y = some (.int .i64 1)) (h : 0 ≤ a ∧ a ≤ 9223372036854775806) (k : QL P N C ops.toArray l ((d, .int .i64 (Lt.xor1 a)) :: e) Q) : QL P N C ops.toArray (⟨some d, .binOp .xor t x y ty, tt, ps, af, g⟩ :: l) e Q := QL.step hg hd (yxor1 hx hy h).in k
theorem WL.shr {x y : Operand} {a : Int} {kk j : IntKind} {n : Nat} (hg : gate ops e g = some true) (hd : Nat.blt d N = true) (hx : ev e x = some (.int kk a)) (hy : ev e y = some (.int j (n : Int))) (h : n ≤ kk.bits) (k : WL P N ops.toArray l ((d, .int kk (a / 2 ^ n)) :: e) w Q) : WL P N ops.toArray (⟨some d, .binOp .shr t x y ty, tt, ps, af, g⟩ :: l) e w Q := WL.step hg hd (yshr hx hy h).in k
theorem QL.shr {x y : Operand} {a : Int} {kk j : IntKind} {n : Nat} (hg : gate ops e g = some true) (hd : Nat.blt d N = true) (hx : ev e x = some (.int kk a)) (hy : ev e y = some (.int j (n : Int))) (h : n ≤ kk.bits) (k : QL P N C ops.toArray l ((d, .int kk (a / 2 ^ n)) :: e) Q) : QL P N C ops.toArray (⟨some d, .binOp .shr t x y ty, tt, ps, af, g⟩ :: l) e Q := QL.step hg hd (yshr hx hy h).in k

theorem WL.sliceH {x y : Operand} {a : Option Addr} {xs : List α} {n cap : Nat} {kk : IntKind} {h : Int} {w0 : World} (hT : OkTab P T) (hg : gate ops e g = some true) (hd : Nat.blt d N = true)
  (hx : ev e x = some (.slice a n cap)) (hy : ev e y = some (.int kk h)) (ht : tget T t = some ti) (htd : ti.desc = .slice el) (he : tget T el = some ei)
  (R : Row s enc w0 a xs) (hn : xs.length = n) (hc : xs.length ≤ cap) (h0 : 0 ≤ h ∧ h ≤ xs.length)
  (k : Row s enc w0 a (xs.take h.toNat) → (xs.take h.toNat).length ≤ cap → WL P N ops.toArray l ((d, .slice a (xs.take h.toNat).length cap) :: e) w Q) : WL P N ops.toArray (⟨some d, .slice t x none (some y) none, tt, ps, af, g⟩ :: l) e w Q := by
 refine WL.step hg hd ?_ (k (R.take _) (by rw [List.length_take]; omega))
 refine Yields.in ?_
 intro ρ hρ w'
 have := run_sliceH (P := P) hT (t := t) (ao := a) (n := n) (cap := cap) (k := kk) (h := h) ht htd he (by omega) w'
 have e1 : (xs.take h.toNat).length = h.toNat := by rw [List.length_take]; omega
 simp [execOp, hρ _ _ hx, hρ _ _ hy, this, e1]
theorem WL.sliceL {x y : Operand} {a : Option Addr} {xs : List α} {n cap : Nat} {kk : IntKind} {h : Int} {w0 : World} (hT : OkTab P T) (hg : gate ops e g = some true) (hd : Nat.blt d N = true)
  (hx : ev e x = some (.slice a n cap)) (hy : ev e y = some (.int kk h)) (ht : tget T t = some ti) (htd : ti.desc = .slice el) (he : tget T el = some ei) (hs : ei.size = s)
  (R : Row s enc w0 a xs) (hn : xs.length = n) (hc : xs.length ≤ cap) (h0 : 0 ≤ h ∧ h ≤ xs.length)
  (k : ∀ a' cap', Row s enc w0 a' (xs.drop h.toNat) → (xs.drop h.toNat).length ≤ cap' → WL P N ops.toArray l ((d, .slice a' (xs.drop h.toNat).length cap') :: e) w Q) : WL P N ops.toArray (⟨some d, .slice t x (some y) none none, tt, ps, af, g⟩ :: l) e w Q := by
 refine WL.step hg hd ?_ (k (if cap = h.toNat then a else a.map (·.add (h.toNat * s))) (cap - h.toNat) (R.dropAt _ _ hc) (by rw [List.length_drop]; omega))
 refine Yields.in ?_
 intro ρ hρ w'
 have := run_sliceL (P := P) hT (t := t) (ao := a) (n := n) (cap := cap) (k := kk) (h := h) ht htd he (by omega) w'
 have e1 : (xs.drop h.toNat).length = n - h.toNat := by rw [List.length_drop, hn]
 rw [hs] at this
 simp [execOp, hρ _ _ hx, hρ _ _ hy, this, e1]

theorem run_append_nothing (hT : OkTab P T) {a : Option Addr} {n cap : Nat} {xs : List α} {w' : World} (ht : tget T t = some ti) (htd : ti.desc = .slice el) (he : tget T el = some ei) (ho : Own s enc el B w' a cap xs) (hs : ei.size = s) :
  (Builtin.append_ #[t, t] tt #[.slice a xs.length cap, .slice none 0 0]).run P w' = .ok (.slice a xs.length cap) w' := by
 obtain ⟨j, hj1, hj2, _⟩ := (hT.at he).info
 have hti := (hT.at ht).1
 rw [htd] at hti
 exact run_append_owned_none (P := P) w' B t tt el j s hti hj1 _ _ _ ho

theorem WL.appendS {x y : Operand} {a b : Option Addr} {n cap m c : Nat} {xs ys : List α} {wo w1 w0 : World} (hT : OkTab P T) (hE : Enc s enc) (hg : gate ops e g = some true) (hd : Nat.blt d N = true)
  (hx : ev e x = some (.slice a n cap)) (hy : ev e y = some (.slice b m c)) (ht : tget T t = some ti) (htd : ti.desc = .slice el) (he : tget T el = some ei) (hs : ei.size = s) (hz : ei.zero.cells.size = s) (hby : Nat.ble ei.bytes 1024 = true)
  (ho : Own s enc el B wo a cap xs) (hwo : Ext wo w) (hn : xs.length = n) (hr : Row s enc w1 b ys) (hw1 : Ext w1 w) (hm : ys.length = m) (hmc : b = none → c = 0) (hB : w0.heap.size = B) (hX : Ext w0 w)
  (hbd : xs.length + ys.length ≤ 137438953472)
  (k : ∀ a' cap' w', Own s enc el B w' a' cap' (xs ++ ys) → Ext w0 w' → Upd B a w w' → (blk a' = blk a ∨ ∃ k, blk a' = some k ∧ w.heap.size ≤ k) → WL P N ops.toArray l ((d, .slice a' (xs ++ ys).length cap') :: e) w' Q) :
  WL P N ops.toArray (⟨some d, .call ⟨.builtin .append, ⟨[x, y]⟩, ⟨[t, t]⟩⟩, tt, ps, af, g⟩ :: l) e w Q := by
 have hb' := Nat.le_of_ble_eq_true hby
 by_cases hb : b = none
 ·subst hb
  have hys : ys = [] := by
   cases ys with
   | nil => rfl
   | cons z r => obtain ⟨b', off, h1, _⟩ := hr.elem 0 z rfl; cases h1
  subst hys
  obtain rfl := hmc rfl
  subst hn; subst hm
  have ho' := ho.ext hwo
  refine WL.eff (v := .slice a (xs ++ []).length cap) (w' := fun m => at' w m) hg hd ?_ (fun m => ?_)
  ·intro ρ hρ m
   have := run_append_nothing (P := P) (tt := tt) (n := xs.length) hT ht htd he (w' := at' w m) ho' hs
   simp only [execOp, resolve, invoke, builtin, Sem.run_bind, Sem.run_pure, Result.andThen_ok, List.map_toArray, List.map_cons, List.map_nil, hρ _ _ hx, hρ _ _ hy, List.append_nil]
   rw [show ([] : List α).length = 0 from rfl, this]
   rfl
  ·exact k a cap (at' w m) (by rw [List.append_nil]; exact ho') (hX.at m) ⟨⟨rfl, rfl, rfl, Nat.le_refl _, fun _ _ _ => rfl⟩, fun q hq => (ho'.blk_lt q hq).1⟩ (.inl rfl)
 ·refine WL.append (B := B) (enc := enc) (ys := ys) hT hE hg hd hx hy ht htd he hs hz (ho.ext hwo) hn (hr.ext hw1) hm hb ⟨?_, ?_, ?_⟩ ?_
  ·rw [← hn, ← hm]; calc (xs.length + ys.length) * ei.bytes ≤ 137438953472 * 1024 := Nat.mul_le_mul hbd hb'
    _ ≤ _ := by decide
  ·rw [← hn, ← hm]; simp only [maxLen]; omega
  ·rw [← hB]; exact hX.size
  ·intro a' cap' w' h1 h2 h3
   exact k a' cap' w' h1 (h2.ext hX (Nat.le_of_eq hB)) h2 h3

theorem Own.noneCap {w' : World} {a : Option Addr} {cap : Nat} {xs : List α} (h : Own s enc el B w' a cap xs) : a = none → cap = 0 := by
 rintro rfl
 rcases h.2 with ⟨h1, _⟩ | ⟨_, _, _, h1, _⟩
 ·simp only [Value.slice.injEq] at h1; exact h1.2.2
 ·simp at h1

theorem Own.of_block {w' : World} {gb : Nat} (xs : List α) (hE : Enc s enc) (h : w'.heap[gb]? = some (.cells (xs.flatMap enc).toArray el (0, 0))) (hB : B ≤ gb) (hm : Nat.ble xs.length 1000000 = true) : Own s enc el B w' (some ⟨gb, 0, none⟩) xs.length xs :=
 ⟨by rw [length_flatMap' hE.len], .inr ⟨gb, xs.length, _, rfl, hB, h, Nat.le_refl _, by have := Nat.le_of_ble_eq_true hm; simp only [maxLen]; omega, by simp [length_flatMap' hE.len], by
  rw [List.take_of_length_le (by simp [length_flatMap' hE.len])]⟩⟩
theorem dec_ne_dec (z : Bool) (p : Prop) [Decidable p] : dec (z ≠ dec p) = (z != decide p) := by
 by_cases h : p <;> cases z <;> simp [h, dec_true, dec_false]
theorem dec_bool (z : Bool) : dec (z = true) = z := by cases z <;> simp [dec_true, dec_false]

theorem Own.of_block0 {w' : World} {gb : Nat} (h : w'.heap[gb]? = some (.cells #[] el (0, 0))) (hB : B ≤ gb) : Own s enc el B w' (some ⟨gb, 0, none⟩) 0 ([] : List α) :=
 ⟨by simp, .inr ⟨gb, 0, #[], rfl, hB, h, Nat.le_refl _, Nat.zero_le _, by simp, by simp⟩⟩
end rules
end Go.Lt
namespace Go.Lt
open Go.RowKit
set_option linter.unusedVariables false
set_option linter.unusedSimpArgs false

abbrev u64 (x : BitVec 64) : Value := .int .u64 (x.toNat : Int)
abbrev encV : BitVec 64 → List Value := fun x => [u64 x]
theorem encV_ok : Enc 1 encV := ⟨fun _ => rfl, fun x u hu => by simp at hu; subst hu; rfl, by decide⟩
theorem ofInt_toNat (x : BitVec 64) : BitVec.ofInt 64 (x.toNat : Int) = x := by
 apply BitVec.eq_of_toNat_eq
 rw [BitVec.toNat_ofInt]
 have := x.isLt
 omega
theorem wrap_u64_toNat (x : BitVec 64) : IntKind.u64.wrap (x.toNat : Int) = x.toNat := by
 have := x.isLt
 exact IntWalk.u64_in _ (by omega)
theorem cast64 : ((2 ^ 64 : Nat) : Int) = 18446744073709551616 := by decide
theorem u64_lit (a : Int) (h : 0 ≤ a ∧ a < 18446744073709551616) : a = ((BitVec.ofInt 64 a).toNat : Int) := by
 rw [BitVec.toNat_ofInt]; omega

section
variable {P : Program} {e : Env} {dd : Option Tmp} {t ty tt : TypeId} {x y : Operand} {ps : String} {af : Array Edge} {g : Option (Nat × Bool)} {a b : Int} {u v : BitVec 64}

theorem uand (hx : ev e x = some (.int .u64 a)) (hy : ev e y = some (.int .u64 b)) (ha : a = (u.toNat : Int)) (hb : b = (v.toNat : Int)) : Yields P e ⟨dd, .binOp .and t x y ty, tt, ps, af, g⟩ (u64 (u &&& v)) := by
 subst ha; subst hb
 have := Yields.bin (P := P) (d := dd) (op := .and) (t := t) (ty := ty) (tt := tt) (ps := ps) (af := af) (g := g) hx hy rfl
 have e1 : IntKind.u64.wrap (BitVec.ofInt IntKind.u64.bits (u.toNat : Int) &&& BitVec.ofInt IntKind.u64.bits (v.toNat : Int)).toNat = (u &&& v).toNat := by
  show IntKind.u64.wrap (BitVec.ofInt 64 (u.toNat : Int) &&& BitVec.ofInt 64 (v.toNat : Int)).toNat = _
  rw [ofInt_toNat, ofInt_toNat, wrap_u64_toNat]
 rwa [e1] at this
theorem uor (hx : ev e x = some (.int .u64 a)) (hy : ev e y = some (.int .u64 b)) (ha : a = (u.toNat : Int)) (hb : b = (v.toNat : Int)) : Yields P e ⟨dd, .binOp .or t x y ty, tt, ps, af, g⟩ (u64 (u ||| v)) := by
 subst ha; subst hb
 have := Yields.bin (P := P) (d := dd) (op := .or) (t := t) (ty := ty) (tt := tt) (ps := ps) (af := af) (g := g) hx hy rfl
 have e1 : IntKind.u64.wrap (BitVec.ofInt IntKind.u64.bits (u.toNat : Int) ||| BitVec.ofInt IntKind.u64.bits (v.toNat : Int)).toNat = (u ||| v).toNat := by
  show IntKind.u64.wrap (BitVec.ofInt 64 (u.toNat : Int) ||| BitVec.ofInt 64 (v.toNat : Int)).toNat = _
  rw [ofInt_toNat, ofInt_toNat, wrap_u64_toNat]
 rwa [e1] at this
theorem ushr {j : IntKind} (hx : ev e x = some (.int .u64 a)) (hy : ev e y = some (.int j b)) (ha : a = (u.toNat : Int)) (hb : 0 ≤ b) : Yields P e ⟨dd, .binOp .shr t x y ty, tt, ps, af, g⟩ (u64 (u >>> b.toNat)) := by
 subst ha
 intro ρ hρ w
 have hneg : ¬ (b < 0) := by omega
 have hrun : (binOp .shr t (.int .u64 (u.toNat : Int)) (.int j b)).run P w = .ok (u64 (u >>> b.toNat)) w := by
  simp only [binOp, Op.shift, hneg, if_false, Sem.run_pure]
  congr 2
  rw [Int.fdiv_eq_ediv_of_nonneg _ (Int.pow_nonneg (by omega)), BitVec.toNat_ushiftRight, Nat.shiftRight_eq_div_pow]
  by_cases h : b.toNat ≤ 64
  ·rw [Nat.min_eq_left (by exact h)]; norm_cast
  ·have h1 : min b.toNat IntKind.u64.bits = 64 := Nat.min_eq_right (by show 64 ≤ _; omega)
   rw [h1]
   have h2 := u.isLt
   have h3 : u.toNat / 2 ^ b.toNat = 0 := Nat.div_eq_of_lt (Nat.lt_of_lt_of_le h2 (Nat.pow_le_pow_right (by decide) (by omega)))
   rw [h3]
   have : ((u.toNat : Int) / 2 ^ 64) = 0 := by omega
   rw [this]; rfl
 simp [execOp, hρ _ _ hx, hρ _ _ hy, eqGuard_int, hrun]
theorem ushl {j : IntKind} (hx : ev e x = some (.int .u64 a)) (hy : ev e y = some (.int j b)) (ha : a = (u.toNat : Int)) (hb : 0 ≤ b) : Yields P e ⟨dd, .binOp .shl t x y ty, tt, ps, af, g⟩ (u64 (u <<< b.toNat)) := by
 subst ha
 intro ρ hρ w
 have hneg : ¬ (b < 0) := by omega
 have hrun : (binOp .shl t (.int .u64 (u.toNat : Int)) (.int j b)).run P w = .ok (u64 (u <<< b.toNat)) w := by
  simp only [binOp, Op.shift, hneg, if_false, Sem.run_pure]
  congr 2
  rw [IntKind.wrap_u64, BitVec.toNat_shiftLeft, Nat.shiftLeft_eq]
  by_cases h : b.toNat ≤ 64
  ·rw [Nat.min_eq_left (by exact h), Int.natCast_emod, Int.natCast_mul, cast64, Int.natCast_pow]; rfl
  ·have h1 : min b.toNat IntKind.u64.bits = 64 := Nat.min_eq_right (by show 64 ≤ _; omega)
   rw [h1]
   obtain ⟨q, hq⟩ : ∃ q, b.toNat = 64 + q := ⟨b.toNat - 64, by omega⟩
   rw [hq, Nat.pow_add]
   have h4 : u.toNat * (2 ^ 64 * 2 ^ q) % 2 ^ 64 = 0 := by
    rw [show u.toNat * (2 ^ 64 * 2 ^ q) = 2 ^ 64 * (u.toNat * 2 ^ q) by rw [Nat.mul_left_comm]]
    exact Nat.mul_mod_right _ _
   rw [h4]
   have : ((u.toNat : Int) * 2 ^ 64) % 18446744073709551616 = 0 := by
    rw [show ((2 : Int) ^ 64) = 18446744073709551616 by decide]; exact Int.mul_emod_left _ _
   rw [this]; rfl
 simp [execOp, hρ _ _ hx, hρ _ _ hy, eqGuard_int, hrun]
theorem unot (hx : ev e x = some (.int .u64 a)) (ha : a = (u.toNat : Int)) : Yields P e ⟨dd, .unOp .xor t x, tt, ps, af, g⟩ (u64 (~~~ u)) := by
 subst ha
 intro ρ hρ w
 have e1 : IntKind.u64.wrap (BitVec.ofInt IntKind.u64.bits IntKind.u64.max ^^^ BitVec.ofInt IntKind.u64.bits (u.toNat : Int)).toNat = (~~~ u).toNat := by
  show IntKind.u64.wrap (BitVec.ofInt 64 IntKind.u64.max ^^^ BitVec.ofInt 64 (u.toNat : Int)).toNat = _
  have h1 : BitVec.ofInt 64 IntKind.u64.max = BitVec.allOnes 64 := by decide
  rw [ofInt_toNat, wrap_u64_toNat, h1, BitVec.allOnes_xor]
 have hrun : (Op.unary .xor (.int .u64 (u.toNat : Int))).run P w = .ok (u64 (~~~ u)) w := by
  simp only [Op.unary, Op.intBits, IntKind.signed, Sem.run_pure, Bool.false_eq_true, if_false]
  rw [e1]
 simp [execOp, hρ _ _ hx, hrun]
end
section rules
variable {P : Program} {N : Nat} {e : Env} {w : World} {Q : Exit → Act → World → Prop} {K : Act → World → Prop} {C : World → Prop} {ops : List Oper} {l : List Oper} {T : Tab}
 {d : Nat} {tt ty : TypeId} {ps : String} {af : Array Edge} {g : Option (Nat × Bool)} {t : TypeId} {x y : Operand} {a b : Int} {u v : BitVec 64} {j : IntKind}
theorem WL.uand (hg : gate ops e g = some true) (hd : Nat.blt d N = true) (hx : ev e x = some (.int .u64 a)) (hy : ev e y = some (.int .u64 b)) (ha : a = (u.toNat : Int)) (hb : b = (v.toNat : Int)) (k : WL P N ops.toArray l ((d, u64 (u &&& v)) :: e) w Q) : WL P N ops.toArray (⟨some d, .binOp .and t x y ty, tt, ps, af, g⟩ :: l) e w Q := WL.step hg hd (Lt.uand hx hy ha hb).in k
theorem WL.uor (hg : gate ops e g = some true) (hd : Nat.blt d N = true) (hx : ev e x = some (.int .u64 a)) (hy : ev e y = some (.int .u64 b)) (ha : a = (u.toNat : Int)) (hb : b = (v.toNat : Int)) (k : WL P N ops.toArray l ((d, u64 (u ||| v)) :: e) w Q) : WL P N ops.toArray (⟨some d, .binOp .or t x y ty, tt, ps, af, g⟩ :: l) e w Q := WL.step hg hd (Lt.uor hx hy ha hb).in k
theorem WL.ushr (hg : gate ops e g = some true) (hd : Nat.blt d N = true) (hx : ev e x = some (.int .u64 a)) (hy : ev e y = some (.int j b)) (ha : a = (u.toNat : Int)) (hb : 0 ≤ b) (k : WL P N ops.toArray l ((d, u64 (u >>> b.toNat)) :: e) w Q) : WL P N ops.toArray (⟨some d, .binOp .shr t x y ty, tt, ps, af, g⟩ :: l) e w Q := WL.step hg hd (Lt.ushr hx hy ha hb).in k
theorem WL.ushl (hg : gate ops e g = some true) (hd : Nat.blt d N = true) (hx : ev e x = some (.int .u64 a)) (hy : ev e y = some (.int j b)) (ha : a = (u.toNat : Int)) (hb : 0 ≤ b) (k : WL P N ops.toArray l ((d, u64 (u <<< b.toNat)) :: e) w Q) : WL P N ops.toArray (⟨some d, .binOp .shl t x y ty, tt, ps, af, g⟩ :: l) e w Q := WL.step hg hd (Lt.ushl hx hy ha hb).in k
theorem WL.unot (hg : gate ops e g = some true) (hd : Nat.blt d N = true) (hx : ev e x = some (.int .u64 a)) (ha : a = (u.toNat : Int)) (k : WL P N ops.toArray l ((d, u64 (~~~ u)) :: e) w Q) : WL P N ops.toArray (⟨some d, .unOp .xor t x, tt, ps, af, g⟩ :: l) e w Q := WL.step hg hd (Lt.unot hx ha).in k
theorem QL.uand (hg : gate ops e g = some true) (hd : Nat.blt d N = true) (hx : ev e x = some (.int .u64 a)) (hy : ev e y = some (.int .u64 b)) (ha : a = (u.toNat : Int)) (hb : b = (v.toNat : Int)) (k : QL P N C ops.toArray l ((d, u64 (u &&& v)) :: e) Q) : QL P N C ops.toArray (⟨some d, .binOp .and t x y ty, tt, ps, af, g⟩ :: l) e Q := QL.step hg hd (Lt.uand hx hy ha hb).in k
theorem QL.uor (hg : gate ops e g = some true) (hd : Nat.blt d N = true) (hx : ev e x = some (.int .u64 a)) (hy : ev e y = some (.int .u64 b)) (ha : a = (u.toNat : Int)) (hb : b = (v.toNat : Int)) (k : QL P N C ops.toArray l ((d, u64 (u ||| v)) :: e) Q) : QL P N C ops.toArray (⟨some d, .binOp .or t x y ty, tt, ps, af, g⟩ :: l) e Q := QL.step hg hd (Lt.uor hx hy ha hb).in k
theorem QL.ushr (hg : gate ops e g = some true) (hd : Nat.blt d N = true) (hx : ev e x = some (.int .u64 a)) (hy : ev e y = some (.int j b)) (ha : a = (u.toNat : Int)) (hb : 0 ≤ b) (k : QL P N C ops.toArray l ((d, u64 (u >>> b.toNat)) :: e) Q) : QL P N C ops.toArray (⟨some d, .binOp .shr t x y ty, tt, ps, af, g⟩ :: l) e Q := QL.step hg hd (Lt.ushr hx hy ha hb).in k
theorem QL.ushl (hg : gate ops e g = some true) (hd : Nat.blt d N = true) (hx : ev e x = some (.int .u64 a)) (hy : ev e y = some (.int j b)) (ha : a = (u.toNat : Int)) (hb : 0 ≤ b) (k : QL P N C ops.toArray l ((d, u64 (u <<< b.toNat)) :: e) Q) : QL P N C ops.toArray (⟨some d, .binOp .shl t x y ty, tt, ps, af, g⟩ :: l) e Q := QL.step hg hd (Lt.ushl hx hy ha hb).in k
theorem QL.unot (hg : gate ops e g = some true) (hd : Nat.blt d N = true) (hx : ev e x = some (.int .u64 a)) (ha : a = (u.toNat : Int)) (k : QL P N C ops.toArray l ((d, u64 (~~~ u)) :: e) Q) : QL P N C ops.toArray (⟨some d, .unOp .xor t x, tt, ps, af, g⟩ :: l) e Q := QL.step hg hd (Lt.unot hx ha).in k
theorem SL.uand (hg : gate ops e g = some true) (hd : Nat.blt d N = true) (hx : ev e x = some (.int .u64 a)) (hy : ev e y = some (.int .u64 b)) (ha : a = (u.toNat : Int)) (hb : b = (v.toNat : Int)) (k : SL P N ops.toArray l ((d, u64 (u &&& v)) :: e) w K) : SL P N ops.toArray (⟨some d, .binOp .and t x y ty, tt, ps, af, g⟩ :: l) e w K := SL.step hg hd (Lt.uand hx hy ha hb).in k
theorem SL.uor (hg : gate ops e g = some true) (hd : Nat.blt d N = true) (hx : ev e x = some (.int .u64 a)) (hy : ev e y = some (.int .u64 b)) (ha : a = (u.toNat : Int)) (hb : b = (v.toNat : Int)) (k : SL P N ops.toArray l ((d, u64 (u ||| v)) :: e) w K) : SL P N ops.toArray (⟨some d, .binOp .or t x y ty, tt, ps, af, g⟩ :: l) e w K := SL.step hg hd (Lt.uor hx hy ha hb).in k
theorem SL.ushr (hg : gate ops e g = some true) (hd : Nat.blt d N = true) (hx : ev e x = some (.int .u64 a)) (hy : ev e y = some (.int j b)) (ha : a = (u.toNat : Int)) (hb : 0 ≤ b) (k : SL P N ops.toArray l ((d, u64 (u >>> b.toNat)) :: e) w K) : SL P N ops.toArray (⟨some d, .binOp .shr t x y ty, tt, ps, af, g⟩ :: l) e w K := SL.step hg hd (Lt.ushr hx hy ha hb).in k
theorem SL.ushl (hg : gate ops e g = some true) (hd : Nat.blt d N = true) (hx : ev e x = some (.int .u64 a)) (hy : ev e y = some (.int j b)) (ha : a = (u.toNat : Int)) (hb : 0 ≤ b) (k : SL P N ops.toArray l ((d, u64 (u <<< b.toNat)) :: e) w K) : SL P N ops.toArray (⟨some d, .binOp .shl t x y ty, tt, ps, af, g⟩ :: l) e w K := SL.step hg hd (Lt.ushl hx hy ha hb).in k
theorem SL.unot (hg : gate ops e g = some true) (hd : Nat.blt d N = true) (hx : ev e x = some (.int .u64 a)) (ha : a = (u.toNat : Int)) (k : SL P N ops.toArray l ((d, u64 (~~~ u)) :: e) w K) : SL P N ops.toArray (⟨some d, .unOp .xor t x, tt, ps, af, g⟩ :: l) e w K := SL.step hg hd (Lt.unot hx ha).in k
end rules
end Go.Lt
namespace Go.Lt
open Go.RowKit
set_option linter.unusedVariables false
set_option linter.unusedSimpArgs false

def lowB (ops : Array Oper) (n : Nat) : Bool :=
 (List.range n).all fun i =>
  match ops[i]? with
  | some o => o.after.all (fun e => !Region.binds .any e || decide (e.on < i)) && (match o.guard with | some (j, _) => decide (j < n) | none => true)
  | none => false

theorem lowB_spec {ops : Array Oper} {n i : Nat} (h : lowB ops n = true) (hi : i < n) : ∃ o, ops[i]? = some o ∧ (∀ e ∈ o.after, Region.binds .any e = true → e.on < i) ∧ (∀ j b, o.guard = some (j, b) → j < n) := by
 have := List.all_eq_true.1 h i (List.mem_range.2 hi)
 split at this
 ·rename_i o ho
  simp only [Bool.and_eq_true] at this
  refine ⟨o, ho, fun e he hb => ?_, fun j b hg => ?_⟩
  ·have := Array.all_eq_true'.1 this.1 e he
   simpa [hb] using this
  ·have := this.2
   rw [hg] at this
   simpa using this
 ·cases this

theorem wanted_same {ops opsH : Array Oper} {n : Nat} (hH : ∀ j, j < n → opsH[j]? = ops[j]?) {o : Oper} (hg : ∀ j b, o.guard = some (j, b) → j < n) (tmps : Array Value) : Region.wanted o (yielded opsH tmps) = Region.wanted o (yielded ops tmps) := by
 unfold Region.wanted
 split
 ·rfl
 ·rename_i j b hgd
  have := hH j (hg j b hgd)
  simp only [yielded, this]

def todo (listed : Array Bool) (n : Nat) : Nat := (List.range n).countP fun i => !listed.getD i false

theorem todo_zero {listed : Array Bool} {n : Nat} (h : todo listed n = 0) {i : Nat} (hi : i < n) : listed.getD i false = true := by
 have := (List.countP_eq_zero.1 h) i (List.mem_range.2 hi)
 simpa using this

theorem todo_set {listed : Array Bool} {i : Nat} (hs : i < listed.size) (hf : listed.getD i false = false) : ∀ n, i < n → todo listed n = todo (listed.setIfInBounds i true) n + 1
 | 0, h => by omega
 | n + 1, h => by
  unfold todo
  rw [List.range_succ, List.countP_append, List.countP_append]
  by_cases hin : i < n
  ·have ih := todo_set hs hf n hin
   unfold todo at ih
   rw [ih]
   have : (listed.setIfInBounds i true).getD n false = listed.getD n false := by
    simp [Array.getD_eq_getD_getElem?, Array.getElem?_setIfInBounds, show i ≠ n by omega]
   simp only [List.countP_singleton, this]
   omega
  ·obtain rfl : i = n := by omega
   have h1 : (List.range i).countP (fun j => !(listed.setIfInBounds i true).getD j false) = (List.range i).countP (fun j => !listed.getD j false) := by
    apply List.countP_congr
    intro j hj
    have hj' := List.mem_range.1 hj
    have : (listed.setIfInBounds i true).getD j false = listed.getD j false := by
     simp [Array.getD_eq_getD_getElem?, Array.getElem?_setIfInBounds, show i ≠ j by omega]
    rw [this]
   have h2 : (listed.setIfInBounds i true).getD i false = true := by
    simp [Array.getD_eq_getD_getElem?, Array.getElem?_setIfInBounds, hs]
   simp only [h1, List.countP_singleton, h2, hf]
   simp

theorem sim {P : Program} {ops opsH : Array Oper} {n g : Nat} {Q Q' : Exit → Act → World → Prop} (hH : ∀ j, j < n → opsH[j]? = ops[j]?) (hsz : opsH.size = n) (hn : n < ops.size)
  (hs : Region.sinkB .any ops n = true) (hc : Region.chainB .any ops n = true) (hl : lowB ops n = true)
  (hQ : ∀ listed a w, listed.size = ops.size → (∀ j, j < n → listed.getD j false = true) → (∀ j, n ≤ j → listed.getD j false = false) → Q' .normal a w → wpAny P .any ops Q g listed a w) (hP : ∀ x a w, x ≠ .normal → Q' x a w → Q x a w) :
  ∀ f listedH listed a w, listedH.size = n → listed.size = ops.size → (∀ j, j < n → listed.getD j false = listedH.getD j false) → HeadInv .any ops n listed → todo listed n = f → wpAny P .any opsH Q' f listedH a w → wpAny P .any ops Q (f + g) listed a w := by
 intro f
 induction f with
 | zero =>
  intro listedH listed a w h1 h2 h3 inv ht h
  rw [Nat.zero_add]
  refine hQ listed a w h2 (fun j hj => todo_zero ht hj) (fun j hj => ?_) h.2
  by_cases hjs : j < ops.size
  ·exact getD_both (inv.tail j hj hjs)
  ·simp [Array.getD_eq_getD_getElem?, Array.getElem?_eq_none (show listed.size ≤ j by omega)]
 | succ f ih =>
  intro listedH listed a w h1 h2 h3 inv ht h
  rw [show f + 1 + g = (f + g) + 1 by omega]
  have hun : ∃ i, i < n ∧ listed.getD i false = false ∧ ∀ j, j < i → listed.getD j false = true := by
   by_cases hall : ∀ i, i < n → listed.getD i false = true
   ·exfalso
    have : todo listed n = 0 := List.countP_eq_zero.2 (fun i hi => by simp [hall i (List.mem_range.1 hi)])
    omega
   ·simp only [Classical.not_forall] at hall
    have hex : ∃ i, i < n ∧ listed.getD i false = false := by
     obtain ⟨i, hi, hf⟩ := hall
     exact ⟨i, hi, by simpa using hf⟩
    obtain ⟨i, ⟨hi, hf⟩, hmin⟩ := exists_least (p := fun i => i < n ∧ listed.getD i false = false) hex
    refine ⟨i, hi, hf, fun j hj => ?_⟩
    cases hb : listed.getD j false with
    | true => rfl
    | false => have := hmin j ⟨by omega, hb⟩; omega
  obtain ⟨i0, hi0, hf0, hmin0⟩ := hun
  have hready : ∀ i, i < n → (i ∈ Region.ready .any ops listed ↔ i ∈ Region.ready .any opsH listedH) := by
   intro i hi
   obtain ⟨o, ho, hedge, _⟩ := lowB_spec hl hi
   rw [mem_ready, mem_ready]
   have e1 : listed.getD i true = listedH.getD i true := by
    have := h3 i hi
    simpa [Array.getD_eq_getD_getElem?, show i < listed.size by omega, show i < listedH.size by omega] using this
   rw [e1]
   refine and_congr_right fun _ => ?_
   constructor
   ·rintro ⟨o', ho', hall⟩
    rw [ho] at ho'; cases ho'
    exact ⟨o, by rw [hH i hi, ho], fun e he hb => by rw [← h3 _ (by have := hedge e he hb; omega)]; exact hall e he hb⟩
   ·rintro ⟨o', ho', hall⟩
    rw [hH i hi, ho] at ho'; cases ho'
    exact ⟨o, ho, fun e he hb => by rw [h3 _ (by have := hedge e he hb; omega)]; exact hall e he hb⟩
  have hi0r : i0 ∈ Region.ready .any ops listed := by
   obtain ⟨o, ho, hedge, _⟩ := lowB_spec hl hi0
   exact mem_ready.2 ⟨getD_in (by omega) hf0, o, ho, fun e he hb => hmin0 _ (hedge e he hb)⟩
  refine ⟨fun h0 => (by rw [h0] at hi0r; cases hi0r), fun i hir => ?_⟩
  have hin : i < n := by
   rcases Nat.lt_or_ge i n with hlt | hge
   ·exact hlt
   ·exact absurd hir (tail_waits hs hc hn inv (n - i0) i0 rfl hi0 (getD_in (by omega) hf0) i hge)
  have hirH := (hready i hin).1 hir
  obtain ⟨o, ho, _, hguard⟩ := lowB_spec hl hin
  have hop := h.2 i hirH
  have hfi : listed.getD i false = false := getD_both (mem_ready.1 hir).1
  have hnext : ∀ a' w', wpAny P .any opsH Q' f (listedH.setIfInBounds i true) a' w' → wpAny P .any ops Q (f + g) (listed.setIfInBounds i true) a' w' := by
   intro a' w' hw
   refine ih _ _ a' w' (by simp [h1]) (by simp [h2]) (fun j hj => ?_) (inv.set hir hin) (by have := todo_set (listed := listed) (by omega) hfi n hin; omega) hw
   by_cases hij : i = j
   ·subst hij
    simp [Array.getD_eq_getD_getElem?, Array.getElem?_setIfInBounds, show i < listed.size by omega, show i < listedH.size by omega]
   ·have := h3 j hj
    simpa [Array.getD_eq_getD_getElem?, Array.getElem?_setIfInBounds, hij] using this
  unfold wpOp at hop ⊢
  rw [hH i hin, ho] at hop
  rw [ho]
  simp only at hop ⊢
  rw [wanted_same hH hguard] at hop
  split at hop
  ·rename_i hw
   rw [if_pos hw]
   rcases hop with hop | ⟨h5, h6⟩
   ·refine .inl ?_
    unfold Oper.wp at hop ⊢
    revert hop
    generalize (execOp a.eval o).run P w = r
    intro hop
    unfold Oper.upon at hop ⊢
    split at hop
    ·exact hnext _ _ hop
    ·exact hnext _ _ hop
    ·exact hnext _ _ hop
    ·refine Calls.mono hop fun e w'' he => ?_
     cases e with
     | returned v => exact hnext _ _ he
     | panicked c => exact hP _ _ _ (by simp) he
     | outgrown => obtain ⟨a1, w1, hq⟩ := he; exact ⟨a1, w1, hP _ _ _ (by simp) hq⟩
    ·exact Rows.mono hop fun v w'' he => hnext _ _ he
    ·exact hP _ _ _ (by simp) hop
    ·exact hop
   ·obtain ⟨a1, w1, hq⟩ := h6
    exact .inr ⟨h5, a1, w1, hP _ _ _ (by simp) hq⟩
  ·rename_i hw
   rw [if_neg hw]
   exact hnext _ _ hop

section
variable {P : Program} {N : Nat} {e : Env} {w : World} {Q : Exit → Act → World → Prop} {ops : List Oper}

theorem wpQuiet_congr {P : Program} {ops opsH : Array Oper} {C : World → Prop} {K : Act → Prop} : ∀ (l : List Oper) (a : Act), (∀ o ∈ l, ∀ tmps, Region.wanted o (yielded opsH tmps) = Region.wanted o (yielded ops tmps)) → wpQuiet P ops C K l a → wpQuiet P opsH C K l a
 | [], a, _, h => h
 | o :: r, a, hw, h => by
  unfold wpQuiet at h ⊢
  rw [hw o (by simp)]
  split at h
  ·rename_i hh
   rw [if_pos hh]
   obtain ⟨v, h1, h2⟩ := h
   exact ⟨v, h1, wpQuiet_congr r _ (fun o' ho' => hw o' (by simp [ho'])) h2⟩
  ·rename_i hh
   rw [if_neg hh]
   exact wpQuiet_congr r _ (fun o' ho' => hw o' (by simp [ho'])) h

theorem W.regionQ {C : World → Prop} {id : Nat} {l pre tail : List Oper} (n : Nat) (hm : P.follows .mixedOrders = true) (hB : Region.lexTailB .any l.toArray n = true) (hc : cutAt n l = some (pre, tail))
  (hL : Region.lexB .any pre.toArray = true) (hlow : lowB l.toArray n = true) (hC : ∀ m, C (at' w m))
  (h : QL P N C l.toArray pre e (fun _ a w' => wpList P l.toArray Q tail a w')) : W P N (.region id l.toArray true) e w Q := by
 refine ⟨fun a m hf => ?_⟩
 obtain ⟨h1, h2⟩ := cutAt_eq hc
 simp only [Region.lexTailB, Bool.and_eq_true, decide_eq_true_eq] at hB
 obtain ⟨⟨⟨⟨hsel, hn⟩, hs⟩, hcb⟩, hlex⟩ := hB
 have hn' : n < l.length := by simpa using hn
 have hpl : pre.length = n := by rw [← h1]; simp; omega
 have htl : tail.length = l.length - n := by rw [← h2]; simp
 have hH : ∀ j, j < n → pre.toArray[j]? = l.toArray[j]? := fun j hj => by rw [← h1]; simp [hj]
 have hq := h.go a hf
 have hq' : wpQuiet P pre.toArray C (fun a' => ∀ w', C w' → wpList P l.toArray Q tail a' w') pre a := by
  refine wpQuiet_congr pre a (fun o ho tmps => ?_) hq
  obtain ⟨i, hi⟩ := List.mem_iff_getElem?.1 ho
  have hin : i < n := by have := (List.getElem?_eq_some_iff.1 hi).1; omega
  obtain ⟨o', ho', _, hgd⟩ := lowB_spec hlow hin
  have : o = o' := by
   have h5 : pre.toArray[i]? = some o := by simpa using hi
   rw [hH i hin, ho'] at h5
   exact (Option.some.inj h5).symm
  subst this
  exact wanted_same hH hgd tmps
 simp only [Region.lexB, Bool.and_eq_true] at hL
 refine wp_region_any hm ?_
 have hany : wpAny P .any pre.toArray (fun x a' w' => match x with | .normal => wpList P l.toArray Q tail a' w' | _ => False) n (Array.replicate n false) a (at' w (m + 1)) := by
  have h5 := wpAnyQ_lex (P := P) (C := C) (md := .any) hL.1 pre 0 (Array.replicate n false) a (by simp) (by have := hL.2; simpa [hpl] using this) hq'
  rw [hpl] at h5
  exact wpAny_of_quiet (Q := fun a' => ∀ w', C w' → wpList P l.toArray Q tail a' w') (fun a' w' hw' hk => hk w' hw') _ _ _ _ (hC (m + 1)) h5
 have inv0 : HeadInv .any l.toArray n (Array.replicate l.toArray.size false) :=
  ⟨by simp, fun j oj _ hl => (by rw [getD_replicate_false] at hl; cases hl), fun t _ ht => getD_in (by simpa using ht) (getD_replicate_false _ _)⟩
 have htodo : todo (Array.replicate l.toArray.size false) n = n := by
  unfold todo
  rw [List.countP_eq_length.2 (fun i _ => by rw [getD_replicate_false]; rfl)]
  simp
 have key := sim (P := P) (g := l.length - n) (Q := Q) hH (by simpa using hpl) hn hs hcb hlow (fun listed a' w' hsz hfull hrest hk => ?_) (fun x a' w' hx hk => ?_) n (Array.replicate n false) (Array.replicate l.toArray.size false) a (at' w (m + 1)) (by simp) (by simp)
  (fun j hj => by rw [getD_replicate_false, getD_replicate_false]) inv0 htodo hany
 ·rw [show n + (l.length - n) = l.toArray.size by simp; omega] at key
  exact key
 · -- the tail
  have hseq : Region.seqB .any l.toArray (l.length - n) n listed = true := by
   have : ∀ (f k : Nat) (L : Array Bool), L.size = l.toArray.size → k + f = n → (∀ j, j < k → L.getD j false = true) → (∀ j, k ≤ j → L.getD j false = false) → Region.lexHead .any l.toArray (l.length - n) f k L = true → ∃ L', L'.size = l.toArray.size ∧ (∀ j, j < n → L'.getD j false = true) ∧ (∀ j, n ≤ j → L'.getD j false = false) ∧ Region.seqB .any l.toArray (l.length - n) n L' = true := by
    intro f
    induction f with
    | zero =>
     intro k L h1 h2 h3 h4 h5
     have hkn : k = n := by omega
     rw [hkn] at h3 h4 h5
     exact ⟨L, h1, h3, h4, h5⟩
    | succ f ih =>
     intro k L h1 h2 h3 h4 h5
     simp only [Region.lexHead, Bool.and_eq_true] at h5
     refine ih (k + 1) _ (by simpa using h1) (by omega) (fun j hj => ?_) (fun j hj => ?_) h5.2
     ·by_cases hjk : k = j
      ·subst hjk
       simp [Array.getD_eq_getD_getElem?, Array.getElem?_setIfInBounds, show k < L.size by rw [h1]; simp; omega]
      ·have := h3 j (by omega)
       simpa [Array.getD_eq_getD_getElem?, Array.getElem?_setIfInBounds, hjk] using this
     ·have := h4 j (by omega)
      simpa [Array.getD_eq_getD_getElem?, Array.getElem?_setIfInBounds, show k ≠ j by omega] using this
   obtain ⟨L', g1, g2, g3, g4⟩ := this n 0 (Array.replicate l.toArray.size false) (by simp) (by omega) (fun j hj => by omega) (fun j _ => getD_replicate_false _ _) (by simpa using hlex)
   have : listed = L' := by
    apply Array.ext
    ·rw [hsz, g1]
    ·intro i hi1 hi2
     rcases Nat.lt_or_ge i n with hlt | hge
     ·have e1 := hfull i hlt
      have e2 := g2 i hlt
      simp [Array.getD_eq_getD_getElem?, hi1] at e1
      simp [Array.getD_eq_getD_getElem?, hi2] at e2
      rw [e1, e2]
     ·have e1 := hrest i hge
      have e2 := g3 i hge
      simp [Array.getD_eq_getD_getElem?, hi1] at e1
      simp [Array.getD_eq_getD_getElem?, hi2] at e2
      rw [e1, e2]
   rw [this]; exact g4
  have := wpAny_of_seq (P := P) (md := .any) (Q' := Q) tail n listed a' w' (fun j => by rw [← h2]; simp [List.getElem?_drop]) (by rw [htl]; exact hseq) hk
  rwa [htl] at this
 ·cases x with
  | normal => exact absurd rfl hx
  | _ => exact hk.elim
theorem Z.tail {P : Program} {N : Nat} {e : Env} {w : World} {Q : Exit → Act → World → Prop} {ops : Array Oper} {tail : List Oper} {x : Exit} (h : WL P N ops tail e w Q) : Z N (fun _ a w' => wpList P ops Q tail a w') x e w := ⟨h.go⟩
theorem W.regionQS {id : Nat} {l pre tail : List Oper} (n : Nat) (hm : P.follows .mixedOrders = true) (hB : Region.lexTailB .any l.toArray n = true) (hc : cutAt n l = some (pre, tail))
  (hL : Region.lexB .any pre.toArray = true) (hlow : lowB l.toArray n = true)
  (h : QL P N (Same w) l.toArray pre e (fun _ a w' => wpList P l.toArray Q tail a w')) : W P N (.region id l.toArray true) e w Q := W.regionQ n hm hB hc hL hlow (fun m => ⟨m, rfl⟩) h
end
end Go.Lt
namespace Go.Lt
open Go.RowKit
set_option linter.unusedVariables false
section
variable {P : Program} {N : Nat} {e : Env} {w : World} {Q : Exit → Act → World → Prop} {c : Code}

def K1 (N : Nat) (I : Nat → Prop) (E : Nat → Env) (w : World) (k : Nat) : Act → World → Prop := fun ac w'' => I (k + 1) ∧ Fit N (E (k + 1)) ac ∧ ∃ m, w'' = at' w m
def KW (N : Nat) (I : Nat → World → Prop) (E : Nat → Env) (k : Nat) : Act → World → Prop := fun ac w'' => ∃ w1, I (k + 1) w1 ∧ Fit N (E (k + 1)) ac ∧ ∃ m, w'' = at' w1 m
def KO (N : Nat) (I : Nat → Option Addr → Nat → World → Prop) (E : Nat → Option Addr → Nat → Env) (k : Nat) : Act → World → Prop := fun ac w'' => ∃ a' cp' w1, I (k + 1) a' cp' w1 ∧ Fit N (E (k + 1) a' cp') ac ∧ ∃ m, w'' = at' w1 m
def KO2 (N : Nat) (I : Nat → Option Addr → Nat → Option Addr → Nat → World → Prop) (E : Nat → Option Addr → Nat → Option Addr → Nat → Env) (k : Nat) : Act → World → Prop := fun ac w'' => ∃ a' cp' b' dp' w1, I (k + 1) a' cp' b' dp' w1 ∧ Fit N (E (k + 1) a' cp' b' dp') ac ∧ ∃ m, w'' = at' w1 m

theorem W.loop1 (n : Nat) (I : Nat → Prop) (E : Nat → Env) (h0 : I 0) (hb : ∀ k, I k → k ≤ n) (hE : Sub (E 0) e)
  (round : ∀ k, I k → W P N c (E k) w (Exit.then (K1 N I E w k) Q)) : W P N (.loop c) e w Q := by
 refine W.loop (σ := Nat) I E (fun _ => w) (fun k => n + 1 - k) 0 h0 hE rfl fun k hk => ?_
 refine ⟨fun a m hf => wp_mono ((round k hk).go a m hf) fun x a' w' hq => ?_⟩
 cases x with
 | normal => obtain ⟨h1, h2, h3⟩ := hq; exact ⟨k + 1, h1, by have := hb k hk; omega, h2, h3⟩
 | _ => exact hq
theorem Z.again1 {I : Nat → Prop} {E : Nat → Env} {k : Nat} (h1 : I (k + 1)) (hs : Sub (E (k + 1)) e) : Z N (Exit.then (K1 N I E w k) Q) .normal e w :=
 ⟨fun a m hf => ⟨h1, hf.sub (e := e) (e' := E (k + 1)) hs, m, rfl⟩⟩

theorem W.loopW (n : Nat) (I : Nat → World → Prop) (E : Nat → Env) (h0 : I 0 w) (hb : ∀ k w', I k w' → k ≤ n) (hE : Sub (E 0) e)
  (round : ∀ k w', I k w' → W P N c (E k) w' (Exit.then (KW N I E k) Q)) : W P N (.loop c) e w Q := by
 refine W.loop (σ := Nat × World) (fun s => I s.1 s.2) (fun s => E s.1) (fun s => s.2) (fun s => n + 1 - s.1) (0, w) h0 hE rfl fun s hk => ?_
 refine ⟨fun a m hf => wp_mono ((round s.1 s.2 hk).go a m hf) fun x a' w' hq => ?_⟩
 cases x with
 | normal => obtain ⟨w1, h1, h2, h3⟩ := hq; exact ⟨(s.1 + 1, w1), h1, by have := hb _ _ hk; show n + 1 - (s.1 + 1) < n + 1 - s.1; omega, h2, h3⟩
 | _ => exact hq
theorem Z.againW {I : Nat → World → Prop} {E : Nat → Env} {k : Nat} (h1 : I (k + 1) w) (hs : Sub (E (k + 1)) e) : Z N (Exit.then (KW N I E k) Q) .normal e w :=
 ⟨fun a m hf => ⟨w, h1, hf.sub (e := e) (e' := E (k + 1)) hs, m, rfl⟩⟩

theorem W.loopO (n : Nat) (I : Nat → Option Addr → Nat → World → Prop) (E : Nat → Option Addr → Nat → Env) (a0 : Option Addr) (c0 : Nat) (h0 : I 0 a0 c0 w) (hb : ∀ k a cp w', I k a cp w' → k ≤ n) (hE : Sub (E 0 a0 c0) e)
  (round : ∀ k a cp w', I k a cp w' → W P N c (E k a cp) w' (Exit.then (KO N I E k) Q)) : W P N (.loop c) e w Q := by
 refine W.loop (σ := Nat × Option Addr × Nat × World) (fun s => I s.1 s.2.1 s.2.2.1 s.2.2.2) (fun s => E s.1 s.2.1 s.2.2.1) (fun s => s.2.2.2) (fun s => n + 1 - s.1) (0, a0, c0, w) h0 hE rfl fun s hk => ?_
 refine ⟨fun a m hf => wp_mono ((round s.1 s.2.1 s.2.2.1 s.2.2.2 hk).go a m hf) fun x a' w' hq => ?_⟩
 cases x with
 | normal => obtain ⟨a1, c1, w1, h1, h2, h3⟩ := hq; exact ⟨(s.1 + 1, a1, c1, w1), h1, by have := hb _ _ _ _ hk; show n + 1 - (s.1 + 1) < n + 1 - s.1; omega, h2, h3⟩
 | _ => exact hq
theorem Z.againO {I : Nat → Option Addr → Nat → World → Prop} {E : Nat → Option Addr → Nat → Env} {k : Nat} (a' : Option Addr) (cp' : Nat) (h1 : I (k + 1) a' cp' w) (hs : Sub (E (k + 1) a' cp') e) :
  Z N (Exit.then (KO N I E k) Q) .normal e w :=
 ⟨fun a m hf => ⟨a', cp', w, h1, hf.sub (e := e) (e' := E (k + 1) a' cp') hs, m, rfl⟩⟩

theorem W.loopO2 (n : Nat) (I : Nat → Option Addr → Nat → Option Addr → Nat → World → Prop) (E : Nat → Option Addr → Nat → Option Addr → Nat → Env) (a0 : Option Addr) (c0 : Nat) (b0 : Option Addr) (d0 : Nat) (h0 : I 0 a0 c0 b0 d0 w) (hb : ∀ k a cp b dp w', I k a cp b dp w' → k ≤ n) (hE : Sub (E 0 a0 c0 b0 d0) e)
  (round : ∀ k a cp b dp w', I k a cp b dp w' → W P N c (E k a cp b dp) w' (Exit.then (KO2 N I E k) Q)) : W P N (.loop c) e w Q := by
 refine W.loop (σ := Nat × Option Addr × Nat × Option Addr × Nat × World) (fun s => I s.1 s.2.1 s.2.2.1 s.2.2.2.1 s.2.2.2.2.1 s.2.2.2.2.2) (fun s => E s.1 s.2.1 s.2.2.1 s.2.2.2.1 s.2.2.2.2.1) (fun s => s.2.2.2.2.2) (fun s => n + 1 - s.1) (0, a0, c0, b0, d0, w) h0 hE rfl fun s hk => ?_
 refine ⟨fun a m hf => wp_mono ((round s.1 s.2.1 s.2.2.1 s.2.2.2.1 s.2.2.2.2.1 s.2.2.2.2.2 hk).go a m hf) fun x a' w' hq => ?_⟩
 cases x with
 | normal => obtain ⟨a1, c1, b1, d1, w1, h1, h2, h3⟩ := hq; exact ⟨(s.1 + 1, a1, c1, b1, d1, w1), h1, by have := hb _ _ _ _ _ _ hk; show n + 1 - (s.1 + 1) < n + 1 - s.1; omega, h2, h3⟩
 | _ => exact hq
theorem Z.againO2 {I : Nat → Option Addr → Nat → Option Addr → Nat → World → Prop} {E : Nat → Option Addr → Nat → Option Addr → Nat → Env} {k : Nat} (a' : Option Addr) (cp' : Nat) (b' : Option Addr) (dp' : Nat) (h1 : I (k + 1) a' cp' b' dp' w) (hs : Sub (E (k + 1) a' cp' b' dp') e) :
  Z N (Exit.then (KO2 N I E k) Q) .normal e w :=
 ⟨fun a m hf => ⟨a', cp', b', dp', w, h1, hf.sub (e := e) (e' := E (k + 1) a' cp' b' dp') hs, m, rfl⟩⟩
end

theorem getI {α : Type} (l : List α) {k : Nat} (h : k < l.length) : ∃ x, l[k]? = some x := ⟨l[k], by simp [h]⟩
theorem lt_of_get {α : Type} {l : List α} {k : Nat} {x : α} (h : l[k]? = some x) : k < l.length := (List.getElem?_eq_some_iff.1 h).1
theorem take_succ' {α : Type} {l : List α} {k : Nat} {x : α} (h : l[k]? = some x) : l.take (k + 1) = l.take k ++ [x] := by
 rw [List.take_add_one, h]; rfl
theorem getD_of {α : Type} {l : List α} {k : Nat} {x d : α} (h : l[k]? = some x) : l.getD k d = x := by simp [List.getD, h]
end Go.Lt
namespace Go.Lt
open Go.RowKit
set_option linter.unusedVariables false
set_option linter.unusedSimpArgs false

def places (T : Tab) : List Field → Option (List (Nat × Nat))
  | [] => some []
  | f :: r =>
    (match tget T f.type with
     | some i =>
       (match places T r with
        | some l => some ((f.offset, i.size) :: l)
        | none => none)
     | none => none)

section runs
variable {P : Program} {T : Tab}
theorem run_places (hT : OkTab P T) : ∀ (fs : List Field) (l : List (Nat × Nat)), places T fs = some l → ∀ w, (fs.mapM (m := Sem) (fun f => do pure (f.offset, ← sizeOf f.type))).run P w = .ok l w
 | [], l, h, w => by simp only [places, Option.some.injEq] at h; subst h; rfl
 | f :: r, l, h, w => by
  unfold places at h
  split at h
  ·rename_i i hi
   split at h
   ·rename_i l' hl
    simp only [Option.some.injEq] at h; subst h
    have h1 := run_sizeOf' (hT.at hi) w
    have h2 := run_places hT r l' hl w
    simp only [List.mapM_cons, Sem.run_bind, h1, Result.andThen_ok, Sem.run_pure, h2]
   ·cases h
  ·cases h


def fillL (pl : List (Nat × Nat)) : List Value → List (Nat × Value) → List Value
 | L, [] => L
 | L, (i, v) :: r => fillL pl (L.take (pl.getD i (0, 0)).1 ++ v.cells.toList ++ L.drop ((pl.getD i (0, 0)).1 + v.cells.size)) r

theorem run_build (hT : OkTab P T) {t : TypeId} {ti : TI} {fs : Array Field} {pl : List (Nat × Nat)} {pvs : List (Nat × Value)} {cs : List Value} (ht : tget T t = some ti) (htd : ti.desc = .struct fs) (hp : places T fs.toList = some pl)
  (hfill : Instr.fill (fun i : Nat => pl[i]?) ti.zero.cells pvs = some cs.toArray) (w : World) : (Instr.build t ⟨pvs⟩).run P w = .ok (.agg cs.toArray) w := by
 have h1 := run_underlying' (hT.at ht); rw [htd] at h1
 have h3 := run_zeroValue' (hT.at ht)
 have h4 := run_places hT fs.toList pl hp w
 have h5 : (fs.mapM (m := Sem) (fun f => do pure (f.offset, ← sizeOf f.type))).run P w = .ok pl.toArray w := by
  rw [Array.mapM_eq_mapM_toList, map_eq_pure_bind, Sem.run_bind, run_places hT fs.toList pl hp w]
  rfl
 unfold Instr.build
 simp only [Sem.run_bind, h3, Result.andThen_ok, Sem.run_pure, h1, h5]
 have h6 : (fun x => pl.toArray[x]?) = (fun i : Nat => pl[i]?) := by funext i; simp
 rw [h6, hfill]
 rfl
end runs

section rules
variable {P : Program} {N : Nat} {e : Env} {w : World} {Q : Exit → Act → World → Prop} {ops : List Oper} {l : List Oper} {T : Tab}
 {d : Nat} {tt : TypeId} {ps : String} {af : Array Edge} {g : Option (Nat × Bool)} {t : TypeId} {ti : TI}

theorem WL.box {x : Operand} {v : Value} (hg : gate ops e g = some true) (hd : Nat.blt d N = true) (hx : ev e x = some v)
  (k : ∀ gb w', w'.heap[gb]? = some (.cells v.cells t (0, 0)) → w.heap.size ≤ gb → Cells w' gb 0 v.cells.toList → Ext w w' → WL P N ops.toArray l ((d, .pointer (some ⟨gb, 0, none⟩)) :: e) w' Q) :
  WL P N ops.toArray (⟨some d, .box t x, tt, ps, af, g⟩ :: l) e w Q := by
 refine WL.eff (v := .pointer (some ⟨w.heap.size, 0, none⟩)) (w' := fun m => fresh (at' w m) v.cells t) hg hd ?_ (fun m => k _ _ (fresh_block (at' w m) _ t) (Nat.le_refl _) (fresh_cells (at' w m) _ t) ((Ext.refl w).at m |>.trans (fresh_ext _ _ _)))
 intro ρ hρ m
 simp [execOp, hρ _ _ hx, Instr.box, newVar, newRow, newObj, Sem.run, fresh]
 rfl

theorem ybuild {C : World → Prop} (hT : OkTab P T) {fs : Array Field} {pl : List (Nat × Nat)} {parts : List (Nat × Operand)} {pvs : List (Nat × Value)} {cs : List Value} {dd : Option Tmp} (ht : tget T t = some ti) (htd : ti.desc = .struct fs) (hpl : places T fs.toList = some pl)
  (hp : evp e parts = some pvs) (hcs : fillL pl ti.zero.cells.toList pvs = cs) (hfill : Instr.fill (fun i : Nat => pl[i]?) ti.zero.cells pvs = some cs.toArray) : YieldsIn P e C ⟨dd, .build t ⟨parts⟩, tt, ps, af, g⟩ (.agg cs.toArray) := by
 intro ρ hρ w' _
 have h1 := run_build hT ht htd hpl hfill w'
 have h4 := evp_map hρ hp
 simp [execOp, h4, h1]
theorem WL.build (hT : OkTab P T) {fs : Array Field} {pl : List (Nat × Nat)} {parts : List (Nat × Operand)} {pvs : List (Nat × Value)} {cs : List Value} (hg : gate ops e g = some true) (hd : Nat.blt d N = true) (ht : tget T t = some ti) (htd : ti.desc = .struct fs) (hpl : places T fs.toList = some pl)
  (hp : evp e parts = some pvs) (hcs : fillL pl ti.zero.cells.toList pvs = cs) (hfill : Instr.fill (fun i : Nat => pl[i]?) ti.zero.cells pvs = some cs.toArray)
  (k : WL P N ops.toArray l ((d, .agg cs.toArray) :: e) w Q) : WL P N ops.toArray (⟨some d, .build t ⟨parts⟩, tt, ps, af, g⟩ :: l) e w Q :=
 WL.step hg hd (ybuild hT ht htd hpl hp hcs hfill) k
theorem QL.build {C : World → Prop} (hT : OkTab P T) {fs : Array Field} {pl : List (Nat × Nat)} {parts : List (Nat × Operand)} {pvs : List (Nat × Value)} {cs : List Value} (hg : gate ops e g = some true) (hd : Nat.blt d N = true) (ht : tget T t = some ti) (htd : ti.desc = .struct fs) (hpl : places T fs.toList = some pl)
  (hp : evp e parts = some pvs) (hcs : fillL pl ti.zero.cells.toList pvs = cs) (hfill : Instr.fill (fun i : Nat => pl[i]?) ti.zero.cells pvs = some cs.toArray)
  (k : QL P N C ops.toArray l ((d, .agg cs.toArray) :: e) Q) : QL P N C ops.toArray (⟨some d, .build t ⟨parts⟩, tt, ps, af, g⟩ :: l) e Q :=
 QL.step hg hd (ybuild hT ht htd hpl hp hcs hfill) k

theorem Upd.heap {B gb : Nat} {w w' : World} {x : Obj} (hU : Upd B (some ⟨gb, 0, none⟩) w w') {g : Nat} (h : w.heap[g]? = some x) (hne : g ≠ gb) : w'.heap[g]? = some x := by
 have hlt := (Array.getElem?_eq_some_iff.1 h).1
 rw [← h]
 exact hU.grown.block g hlt (by simp [blk]; exact hne)
theorem Ext.heap {w w' : World} (h : Ext w w') {g : Nat} {x : Obj} (hx : w.heap[g]? = some x) : w'.heap[g]? = some x := by
 rw [h.block g (Array.getElem?_eq_some_iff.1 hx).1]; exact hx
theorem heap_lt {w : World} {g : Nat} {x : Obj} (hx : w.heap[g]? = some x) : g < w.heap.size := (Array.getElem?_eq_some_iff.1 hx).1
theorem cells_heap {w : World} {gb : Nat} {cs : Array Value} {el : TypeId} (h : w.heap[gb]? = some (.cells cs el (0, 0))) : Cells w gb 0 cs.toList := by
 refine cells_of fun j u hu => ?_
 simp [World.cell?, h]
 simpa using hu

theorem Z.bodyC {fn : Func} {R : Value → World → Prop} {b ty : Nat} {vs : List Value} {t : Nat} (hT : OkTab P T) (hr : fn.results = #[.cell t ty]) (hv : get e t = some (.pointer (some ⟨b, 0, none⟩)))
  (ht : tget T ty = some ti) (ha : isAggD ti.desc = true) (hs : ti.size = vs.length) (hc : Cells w b 0 vs) (hR : ∀ m, R (.agg vs.toArray) (at' w m)) :
  Z N (bodyPost P fn fun x w' => ∃ v, x = .returned v ∧ R v w') .ret e w := ⟨fun a m hf => by
 have h1 := run_isAgg' (hT.at ht) (at' w m); rw [ha] at h1
 have h3 := run_sizeOf' (hT.at ht) (at' w m); rw [hs] at h3
 have h2 := run_loadCellsFrom (P := P) (acc := #[]) (off := 0) (i := 0) (b := b) (hc.ext ((Ext.refl w).at m))
 refine bodyPost_ret (v := .agg vs.toArray) ?_ hf.defers ⟨_, rfl, hR m⟩
 have h4 := hf.slots _ _ hv
 simp [results, hr, Array.getD_eq_getD_getElem?, h4, asAddr, loadVar, h1, h3, loadCells, h2]⟩
end rules
end Go.Lt
namespace Go.Lt
open Go.RowKit
set_option linter.unusedVariables false
set_option linter.unusedSimpArgs false

section own
variable {α : Type} {s : Nat} {enc : α → List Value} {el : TypeId} {B : Nat} {w : World} {a : Option Addr} {cap : Nat} {l : List α}
theorem Own.take (hE : Enc s enc) (h : Own s enc el B w a cap l) (k : Nat) : Own s enc el B w a cap (l.take k) := by
 rcases h.2 with ⟨h1, h2⟩ | ⟨g', c', cur, h1, h2, h3, h4, h5, h6, h7⟩
 ·have : l = [] := List.eq_nil_of_length_eq_zero h2
  subst this; simpa using h
 ·simp only [Value.slice.injEq, true_and] at h1
  obtain ⟨h1, rfl⟩ := h1
  refine ⟨by rw [length_flatMap' hE.len], .inr ⟨g', cap, cur, by rw [h1], h2, h3, by rw [List.length_take]; omega, h5, h6, ?_⟩⟩
  have hle : (l.take k).length * s ≤ l.length * s := Nat.mul_le_mul_right s (by rw [List.length_take]; omega)
  have e1 : l.flatMap enc = (l.take k).flatMap enc ++ (l.drop k).flatMap enc := by rw [← List.flatMap_append, List.take_append_drop]
  have e2 : cur.toList.take ((l.take k).length * s) = (cur.toList.take (l.length * s)).take ((l.take k).length * s) := by rw [List.take_take, Nat.min_eq_left hle]
  rw [e2, h7, e1, List.take_left' (length_flatMap' hE.len _)]
theorem Own.blk_ne {gb : Nat} (h : Own s enc el B w a cap l) (hge : w.heap.size ≤ gb) : blk a = none ∨ blk a ≠ blk (some ⟨gb, 0, none⟩) := by
 cases hb : blk a with
 | none => exact .inl rfl
 | some k => exact .inr (fun hh => by have := (h.blk_lt k hb).2; simp [blk] at hh; omega)
end own

section mm
variable {P : Program} {e : Env} {dd : Option Tmp} {tt : TypeId} {x y : Operand} {ps : String} {af : Array Edge} {g : Option (Nat × Bool)} {a b : Int} {kk : IntKind} {ts : Array TypeId}
theorem ymin (hx : ev e x = some (.int kk a)) (hy : ev e y = some (.int kk b)) : Yields P e ⟨dd, .call ⟨.builtin .min, ⟨[x, y]⟩, ts⟩, tt, ps, af, g⟩ (.int kk (min a b)) := by
 intro ρ hρ w
 simp [execOp, resolve, invoke, builtin, hρ _ _ hx, hρ _ _ hy, Builtin.min_, Builtin.min2]
 split <;> omega
theorem ymax (hx : ev e x = some (.int kk a)) (hy : ev e y = some (.int kk b)) : Yields P e ⟨dd, .call ⟨.builtin .max, ⟨[x, y]⟩, ts⟩, tt, ps, af, g⟩ (.int kk (max a b)) := by
 intro ρ hρ w
 simp [execOp, resolve, invoke, builtin, hρ _ _ hx, hρ _ _ hy, Builtin.max_, Builtin.max2]
 split <;> omega
end mm

section rules
variable {P : Program} {N : Nat} {e : Env} {w : World} {Q : Exit → Act → World → Prop} {ops : List Oper} {l : List Oper} {T : Tab}
 {d : Nat} {tt ty : TypeId} {ps : String} {af : Array Edge} {g : Option (Nat × Bool)} {t : TypeId} {α : Type} {s : Nat} {enc : α → List Value} {B : Nat} {ti ei : TI} {el : TypeId} {C : World → Prop}
theorem WL.min {x y : Operand} {a b : Int} {kk : IntKind} {ts : Array TypeId} (hg : gate ops e g = some true) (hd : Nat.blt d N = true) (hx : ev e x = some (.int kk a)) (hy : ev e y = some (.int kk b)) (k : WL P N ops.toArray l ((d, .int kk (Min.min a b)) :: e) w Q) : WL P N ops.toArray (⟨some d, .call ⟨.builtin .min, ⟨[x, y]⟩, ts⟩, tt, ps, af, g⟩ :: l) e w Q := WL.step hg hd (ymin hx hy).in k
theorem QL.min {x y : Operand} {a b : Int} {kk : IntKind} {ts : Array TypeId} (hg : gate ops e g = some true) (hd : Nat.blt d N = true) (hx : ev e x = some (.int kk a)) (hy : ev e y = some (.int kk b)) (k : QL P N C ops.toArray l ((d, .int kk (Min.min a b)) :: e) Q) : QL P N C ops.toArray (⟨some d, .call ⟨.builtin .min, ⟨[x, y]⟩, ts⟩, tt, ps, af, g⟩ :: l) e Q := QL.step hg hd (ymin hx hy).in k
theorem WL.max {x y : Operand} {a b : Int} {kk : IntKind} {ts : Array TypeId} (hg : gate ops e g = some true) (hd : Nat.blt d N = true) (hx : ev e x = some (.int kk a)) (hy : ev e y = some (.int kk b)) (k : WL P N ops.toArray l ((d, .int kk (Max.max a b)) :: e) w Q) : WL P N ops.toArray (⟨some d, .call ⟨.builtin .max, ⟨[x, y]⟩, ts⟩, tt, ps, af, g⟩ :: l) e w Q := WL.step hg hd (ymax hx hy).in k
theorem QL.max {x y : Operand} {a b : Int} {kk : IntKind} {ts : Array TypeId} (hg : gate ops e g = some true) (hd : Nat.blt d N = true) (hx : ev e x = some (.int kk a)) (hy : ev e y = some (.int kk b)) (k : QL P N C ops.toArray l ((d, .int kk (Max.max a b)) :: e) Q) : QL P N C ops.toArray (⟨some d, .call ⟨.builtin .max, ⟨[x, y]⟩, ts⟩, tt, ps, af, g⟩ :: l) e Q := QL.step hg hd (ymax hx hy).in k
theorem WL.makeC {z : α} {enc : α → List Value} {x y : Operand} {kx ky : IntKind} {i c : Int} {w0 : World} (hT : OkTab P T) (hg : gate ops e g = some true) (hd : Nat.blt d N = true)
  (hx : ev e x = some (.int kx i)) (hy : ev e y = some (.int ky c)) (ht : tget T t = some ti) (htd : ti.desc = .slice el) (he : tget T el = some ei) (hs : ei.size = s) (hby : Nat.ble ei.bytes 1024 = true)
  (hE : Enc s enc) (hz : enc z = ei.zero.cells.toList) (hzs : ei.zero.cells.size = s) (hX : Ext w0 w) (hi : 0 ≤ i ∧ i ≤ c ∧ c ≤ 137438953472)
  (k : ∀ gb w', Own s enc el w0.heap.size w' (some ⟨gb, 0, none⟩) c.toNat (List.replicate i.toNat z) → w.heap.size ≤ gb → Ext w w' → WL P N ops.toArray l ((d, .slice (some ⟨gb, 0, none⟩) (List.replicate i.toNat z).length c.toNat) :: e) w' Q) :
  WL P N ops.toArray (⟨some d, .makeSlice t x y, tt, ps, af, g⟩ :: l) e w Q := by
 obtain ⟨q, rfl⟩ := Int.eq_ofNat_of_zero_le hi.1
 obtain ⟨n, rfl⟩ := Int.eq_ofNat_of_zero_le (Int.le_trans hi.1 hi.2.1)
 obtain ⟨j, hj1, hj2, hj3, hj4⟩ := (hT.at he).info
 have hti := (hT.at ht).1
 rw [htd] at hti
 have hb' := Nat.le_of_ble_eq_true hby
 have hn : n ≤ 137438953472 := by omega
 have hqn : q ≤ n := by omega
 have hrep : madeCells ei.zero.cells (n * s) = ((List.replicate n z).flatMap enc).toArray := by
  apply Array.ext'
  simp only [madeCells, Array.toList_map, Array.toList_range]
  apply List.ext_getElem?
  intro q
  have hpos := hE.pos
  by_cases hq : q < n * s
  ·have hdiv : q / s < n := by rw [Nat.div_lt_iff_lt_mul hpos]; exact hq
   have hmod : q % s < s := Nat.mod_lt _ hpos
   have h1 := getElem?_flatMap' hE.len (List.replicate n z) (q / s) (q % s) z (by simp [hdiv]) hmod
   have h2 : q / s * s + q % s = q := by rw [Nat.mul_comm]; exact Nat.div_add_mod q s
   rw [h2] at h1
   rw [h1, hz]
   simp [hq, hzs, hmod]
  ·have h1 : ((List.replicate n z).flatMap enc).length = n * s := by rw [length_flatMap' hE.len]; simp
   rw [List.getElem?_eq_none (by simp; omega), List.getElem?_eq_none (by omega)]
 refine WL.eff (v := .slice (some ⟨w.heap.size, 0, none⟩) (List.replicate q z).length n) (w' := fun m => fresh (at' w m) ((List.replicate n z).flatMap enc).toArray el) hg hd ?_ (fun m => ?_)
 ·intro ρ hρ m
  have hr := run_make (P := P) (at' w m) t el j ei.zero hti hj1 hj4 kx ky (q : Int) (n : Int) (by omega) (by omega) (by
   rw [hj3]
   have : ((ei.bytes : Int)) ≤ 1024 := by omega
   calc (ei.bytes : Int) * (n : Int) ≤ 1024 * 137438953472 := Int.mul_le_mul this (by omega) (by omega) (by omega)
    _ ≤ _ := by decide) (by omega)
  have e1 : ((n : Int).toNat * j.size) = n * s := by rw [hj2, hs]; simp
  rw [e1, hrep] at hr
  simp only [Int.toNat_natCast] at hr
  simp [execOp, hρ _ _ hx, hρ _ _ hy, hr, fresh]
 ·have hO := Own.fresh (α := α) (enc := enc) (el := el) hE.len (at' w m) (List.replicate n z) (B := w0.heap.size) hX.size (by simp only [List.length_replicate, maxLen]; omega)
  simp only [List.length_replicate] at hO
  have hO2 := Own.take hE hO q
  rw [List.take_replicate, Nat.min_eq_left hqn] at hO2
  exact k w.heap.size _ hO2 (Nat.le_refl _) ((Ext.refl w).at m |>.trans (fresh_ext _ _ _))
theorem QL.sliceL {x y : Operand} {a : Option Addr} {xs : List α} {n cap : Nat} {kk : IntKind} {h : Int} {w0 : World} (hT : OkTab P T) (hg : gate ops e g = some true) (hd : Nat.blt d N = true)
  (hx : ev e x = some (.slice a n cap)) (hy : ev e y = some (.int kk h)) (ht : tget T t = some ti) (htd : ti.desc = .slice el) (he : tget T el = some ei) (hs : ei.size = s)
  (R : Row s enc w0 a xs) (hn : xs.length = n) (hc : xs.length ≤ cap) (h0 : 0 ≤ h ∧ h ≤ xs.length)
  (k : ∀ a' cap', Row s enc w0 a' (xs.drop h.toNat) → (xs.drop h.toNat).length ≤ cap' → QL P N C ops.toArray l ((d, .slice a' (xs.drop h.toNat).length cap') :: e) Q) : QL P N C ops.toArray (⟨some d, .slice t x (some y) none none, tt, ps, af, g⟩ :: l) e Q := by
 refine QL.step hg hd ?_ (k (if cap = h.toNat then a else a.map (·.add (h.toNat * s))) (cap - h.toNat) (R.dropAt _ _ hc) (by rw [List.length_drop]; omega))
 refine Yields.in ?_
 intro ρ hρ w'
 have := run_sliceL (P := P) hT (t := t) (ao := a) (n := n) (cap := cap) (k := kk) (h := h) ht htd he (by omega) w'
 have e1 : (xs.drop h.toNat).length = n - h.toNat := by rw [List.length_drop, hn]
 rw [hs] at this
 simp [execOp, hρ _ _ hx, hρ _ _ hy, this, e1]
theorem QL.sliceH {x y : Operand} {a : Option Addr} {xs : List α} {n cap : Nat} {kk : IntKind} {h : Int} {w0 : World} (hT : OkTab P T) (hg : gate ops e g = some true) (hd : Nat.blt d N = true)
  (hx : ev e x = some (.slice a n cap)) (hy : ev e y = some (.int kk h)) (ht : tget T t = some ti) (htd : ti.desc = .slice el) (he : tget T el = some ei)
  (R : Row s enc w0 a xs) (hn : xs.length = n) (hc : xs.length ≤ cap) (h0 : 0 ≤ h ∧ h ≤ xs.length)
  (k : Row s enc w0 a (xs.take h.toNat) → (xs.take h.toNat).length ≤ cap → QL P N C ops.toArray l ((d, .slice a (xs.take h.toNat).length cap) :: e) Q) : QL P N C ops.toArray (⟨some d, .slice t x none (some y) none, tt, ps, af, g⟩ :: l) e Q := by
 refine QL.step hg hd ?_ (k (R.take _) (by rw [List.length_take]; omega))
 refine Yields.in ?_
 intro ρ hρ w'
 have := run_sliceH (P := P) hT (t := t) (ao := a) (n := n) (cap := cap) (k := kk) (h := h) ht htd he (by omega) w'
 have e1 : (xs.take h.toNat).length = h.toNat := by rw [List.length_take]; omega
 simp [execOp, hρ _ _ hx, hρ _ _ hy, this, e1]
end rules
end Go.Lt
namespace Go.Lt
open Go.RowKit
set_option linter.unusedVariables false
set_option linter.unusedSimpArgs false

def subA (a : Option Addr) (cap i s : Nat) : Option Addr := if cap = i then a else a.map (·.add (i * s))

section rules
variable {P : Program} {N : Nat} {e : Env} {w : World} {Q : Exit → Act → World → Prop} {ops : List Oper} {l : List Oper} {T : Tab}
 {d : Nat} {tt : TypeId} {ps : String} {af : Array Edge} {g : Option (Nat × Bool)} {t : TypeId} {α : Type} {s : Nat} {enc : α → List Value} {B : Nat} {ti ei : TI} {el : TypeId}

end rules

theorem Upd.apart {β : Type} {t : Nat} {enc' : β → List Value} {el' : TypeId} {B B' : Nat} {c a' ao : Option Addr} {co : Nat} {L : List β} {w w' : World} (hU : Upd B c w w') (hF : blk a' = blk c ∨ ∃ k, blk a' = some k ∧ w.heap.size ≤ k)
  (ho : Own t enc' el' B' w ao co L) (hne : blk ao = none ∨ blk ao ≠ blk c) : Own t enc' el' B' w' ao co L ∧ (blk ao = none ∨ blk ao ≠ blk a') := by
 refine ⟨hU.own ho hne, ?_⟩
 rcases hne with h | h
 ·exact .inl h
 ·refine .inr fun he => ?_
  rcases hF with hF | ⟨k, hk, hle⟩
  ·exact h (he.trans hF)
  ·have := (ho.blk_lt k (he.trans hk)).2
   omega
theorem Upd.trans {B : Nat} {a : Option Addr} {w w1 w2 : World} (h : Upd B a w w1) (k : Upd B a w1 w2) : Upd B a w w2 :=
 ⟨⟨k.grown.os.trans h.grown.os, k.grown.tape.trans h.grown.tape, k.grown.output.trans h.grown.output, Nat.le_trans h.grown.size k.grown.size, fun q hq hne => (k.grown.block q (Nat.lt_of_lt_of_le hq h.grown.size) hne).trans (h.grown.block q hq hne)⟩, h.from'⟩
end Go.Lt
namespace Go.Lt
open Go.RowKit
set_option linter.unusedVariables false
set_option linter.unusedSimpArgs false

def onlyN (K : Act → World → Prop) : Exit → Act → World → Prop := fun x a w => match x with | .normal => K a w | _ => False

section float
variable {P : Program} {ops : Array Oper} {C : World → Prop} {early : Nat → Bool} {K : Act → World → Prop}

def FYields (P : Program) (ops : Array Oper) (C : World → Prop) (o : Oper) (v : Value) (a : Act) : Prop :=
 (Region.wanted o (yielded ops a.tmps) = true ∧ ∀ w, C w → (execOp a.eval o).run P w = .ok (.value v) w) ∨ (Region.wanted o (yielded ops a.tmps) = false ∧ v = undef)

theorem FYields.wpOp {i : Nat} {o : Oper} {v : Value} {a : Act} {w : World} {Q : Exit → Act → World → Prop} {K' : Act → World → Prop} (hi : ops[i]? = some o) (hy : FYields P ops C o v a) (hC : C w) (h : K' (a.put o.dst v) w) : wpOp P ops Q i K' a w := by
 unfold Go.wpOp
 simp only [hi]
 rcases hy with ⟨hw, hv⟩ | ⟨hw, rfl⟩
 ·simp only [hw, if_true]
  refine .inl ?_
  unfold Oper.wp
  rw [hv w hC]
  exact h
 ·simp only [hw, Bool.false_eq_true, if_false]; exact h

theorem FYields.of_same {o : Oper} {v : Value} {a a' : Act} (hy : FYields P ops C o v a) (he : execOp a'.eval o = execOp a.eval o)
  (hw : Region.wanted o (yielded ops a'.tmps) = Region.wanted o (yielded ops a.tmps)) : FYields P ops C o v a' := by
 unfold FYields at *
 rw [he, hw]
 exact hy

theorem wpOp_put {j : Nat} {oi oj : Oper} {v : Value} (hj : ops[j]? = some oj) (hap : oi.apart ops oj = true)
  (hsi : ∀ cs b, oi.op ≠ .select cs b) (hsj : ∀ cs b, oj.op ≠ .select cs b) {K0 K1 : Act → World → Prop} {a : Act} {w : World}
  (hy : FYields P ops C oi v a) (h : wpOp P ops (onlyN K0) j K1 (a.put oi.dst v) w) :
  wpOp P ops (onlyN K0) j (fun a' w' => FYields P ops C oi v a' ∧ K1 (a'.put oi.dst v) w') a w := by
 obtain ⟨h1, h2, h3⟩ := Oper.apart_spec hap
 have keep : ∀ u, FYields P ops C oi v (a.put oj.dst u) := fun u => hy.of_same (execOp_put oi hsi a oj.dst u h3) (wanted_put oi a oj.dst u h3)
 have swap : ∀ u, (a.put oi.dst v).put oj.dst u = (a.put oj.dst u).put oi.dst v := fun u => Act.put_comm a v u h2
 have lets : ¬ LetsOut (onlyN K0) := fun ⟨_, _, hq⟩ => hq
 unfold Go.wpOp at *
 simp only [hj] at *
 rw [wanted_put oj a oi.dst v h1] at h
 split
 ·rename_i hw
  simp only [hw, if_true] at h
  rcases h with h | ⟨_, hq⟩
  ·refine .inl ?_
   unfold Oper.wp at h ⊢
   rw [execOp_put oj hsj a oi.dst v h1] at h
   revert h
   generalize (execOp a.eval oj).run P w = r
   intro h
   unfold Oper.upon at h ⊢
   split at h
   ·exact ⟨keep _, by rw [← swap]; exact h⟩
   ·exact ⟨keep _, by rw [← swap]; exact h⟩
   ·rename_i d w'
    have e1 : ({ a with defers := d :: a.defers }.put oj.dst undef).put oi.dst v = { a.put oi.dst v with defers := d :: (a.put oi.dst v).defers }.put oj.dst undef := by
     rw [Act.put_comm _ undef v (fun q hq hh => h2 q hh hq)]
     cases oi.dst <;> rfl
    have e2 : FYields P ops C oi v ({ a with defers := d :: a.defers }.put oj.dst undef) := by
     refine (keep undef).of_same ?_ ?_
     ·cases oj.dst <;> rfl
     ·cases oj.dst <;> rfl
    exact ⟨e2, by rw [e1]; exact h⟩
   ·refine Calls.mono h fun x w'' hx => ?_
    cases x with
    | returned u => exact ⟨keep _, by rw [← swap]; exact hx⟩
    | panicked c => exact hx.elim
    | outgrown => exact (lets hx).elim
   ·exact Rows.mono h fun u w'' hx => ⟨keep _, by rw [← swap]; exact hx⟩
   ·exact h.elim
   ·exact h
  ·exact (lets hq).elim
 ·rename_i hw
  simp only [hw] at h
  exact ⟨keep _, by rw [← swap]; exact h⟩

theorem wpOp_mono' {j : Nat} {K0 K1 K2 : Act → World → Prop} {Q : Exit → Act → World → Prop} {a : Act} {w : World} (hk : ∀ a w, K1 a w → K2 a w) (h : wpOp P ops (onlyN K0) j K1 a w) : wpOp P ops Q j K2 a w := by
 have lets : ¬ LetsOut (onlyN K0) := fun ⟨_, _, hq⟩ => hq
 unfold Go.wpOp at *
 split
 ·rename_i ho; simp only [ho] at h; exact hk _ _ h
 ·rename_i o ho
  simp only [ho] at h
  split
  ·rename_i hw
   simp only [hw, if_true] at h
   rcases h with h | ⟨_, hq⟩
   ·refine .inl ?_
    unfold Oper.wp at h ⊢
    revert h
    generalize (execOp a.eval o).run P w = r
    intro h
    unfold Oper.upon at h ⊢
    split at h
    ·exact hk _ _ h
    ·exact hk _ _ h
    ·exact hk _ _ h
    ·refine Calls.mono h fun x w'' hx => ?_
     cases x with
     | returned u => exact hk _ _ hx
     | panicked c => exact hx.elim
     | outgrown => exact (lets hx).elim
    ·exact Rows.mono h fun u w'' hx => hk _ _ hx
    ·exact h.elim
    ·exact h
   ·exact (lets hq).elim
  ·rename_i hw
   simp only [hw] at h
   exact hk _ _ h

def wpAnyC (P : Program) (ops : Array Oper) (C : World → Prop) (early : Nat → Bool) (K : Act → World → Prop) : Nat → Array Bool → Act → World → Prop
 | 0, listed, a, w => Region.ready .any ops listed = [] ∧ K a w
 | fuel + 1, listed, a, w => Region.ready .any ops listed ≠ [] ∧ ∀ i ∈ Region.ready .any ops listed,
   wpOp P ops (onlyN K) i (fun a' w' => (early i = true → C w') ∧ wpAnyC P ops C early K fuel (listed.setIfInBounds i true) a' w') a w

theorem wpAny_of_C {Q : Exit → Act → World → Prop} (hQ : ∀ a w, K a w → Q .normal a w) : ∀ (fuel : Nat) (listed : Array Bool) (a : Act) (w : World), wpAnyC P ops C early K fuel listed a w → wpAny P .any ops Q fuel listed a w
 | 0, _, _, _, h => ⟨h.1, hQ _ _ h.2⟩
 | fuel + 1, _, _, _, h => ⟨fun h0 => absurd h0 h.1, fun i hi => wpOp_mono' (fun a w hh => wpAny_of_C hQ fuel _ a w hh.2) (h.2 i hi)⟩

theorem wpAnyC_first {i : Nat} {oi : Oper} {v : Value} (hi : ops[i]? = some oi) (hsel : ∀ (j : Nat) (o : Oper) cs b, ops[j]? = some o → o.op ≠ .select cs b) :
  ∀ (fuel : Nat) (listed : Array Bool) (a : Act) (w : World), C w →
   (∀ j oj, ops[j]? = some oj → j ≠ i → listed.getD j true = false → (∀ e ∈ oj.after, Region.binds .any e = true → e.on ≠ i) → oi.apart ops oj = true ∧ early j = true) →
   i ∈ Region.ready .any ops listed → FYields P ops C oi v a →
   wpAnyC P ops C early K fuel (listed.setIfInBounds i true) (a.put oi.dst v) w → wpAnyC P ops C early K (fuel + 1) listed a w := by
 intro fuel
 induction fuel with
 | zero =>
  intro listed a w hC _ hr hy H
  refine ⟨fun h => (by rw [h] at hr; cases hr), fun j hj => ?_⟩
  by_cases hji : j = i
  ·subst hji; exact hy.wpOp hi hC ⟨fun _ => hC, H⟩
  ·have := ready_mono hj hji
   rw [H.1] at this
   cases this
 | succ fuel ih =>
  intro listed a w hC hfree hr hy H
  refine ⟨fun h => (by rw [h] at hr; cases hr), fun j hj => ?_⟩
  by_cases hji : j = i
  ·subst hji; exact hy.wpOp hi hC ⟨fun _ => hC, H⟩
  ·have h1 := H.2 j (ready_mono hj hji)
   obtain ⟨hjun, oj, hoj, hall⟩ := mem_ready.1 hj
   have hnot : ∀ e ∈ oj.after, Region.binds .any e = true → e.on ≠ i := fun e he hb heq => by
    have h1 := hall e he hb
    have h0 := (mem_ready.1 hr).1
    rw [heq] at h1
    rcases Nat.lt_or_ge i listed.size with h' | h'
    ·simp [h'] at h0 h1; rw [h0] at h1; cases h1
    ·simp [Array.getElem?_eq_none h'] at h1
   obtain ⟨hap, hea⟩ := hfree j oj hoj hji hjun hnot
   have h2 := wpOp_put hoj hap (fun cs b => hsel i oi cs b hi) (fun cs b => hsel j oj cs b hoj) hy h1
   have hfree' : ∀ k ok, ops[k]? = some ok → k ≠ i → (listed.setIfInBounds j true).getD k true = false →
     (∀ e ∈ ok.after, Region.binds .any e = true → e.on ≠ i) → oi.apart ops ok = true ∧ early k = true := fun k ok hk hki hun hno => by
    refine hfree k ok hk hki ?_ hno
    by_cases hjk : j = k
    ·subst hjk; exact hjun
    ·rw [getD_set_ne true hjk] at hun; exact hun
   refine wpOp_mono' (fun a' w' h3 => ⟨fun _ => h3.2.1 hea, ih (listed.setIfInBounds j true) a' w' (h3.2.1 hea) hfree' (ready_mono hr (Ne.symm hji)) h3.1 ?_⟩) h2
   rw [Array.setIfInBounds_comm _ _ hji]
   exact h3.2.2

def waits (ops : Array Oper) (j i : Nat) : Bool := match ops[j]? with | some o => o.after.any (fun e => Region.binds .any e && e.on == i) | none => false
def earlyB (ops : Array Oper) (fl : List Nat) (j : Nat) : Bool := fl.contains j || fl.any (fun f => !waits ops j f)
def ordC (ops : Array Oper) : List Nat → Array Bool → Bool
 | [], L => Region.ready .any ops L == []
 | i :: r, L => Region.ready .any ops L == [i] && ordC ops r (L.setIfInBounds i true)
def ordF (ops : Array Oper) (early : Nat → Bool) (ch : List Nat) : List Nat → Array Bool → Bool
 | [], L => ordC ops ch L
 | i :: r, L => (Region.ready .any ops L).contains i && (match ops[i]? with
   | some oi => (List.range ops.size).all (fun j => j == i || L.getD j true || waits ops j i || (match ops[j]? with | some oj => oi.apart ops oj && early j | none => false))
   | none => false) && ordF ops early ch r (L.setIfInBounds i true)
def ordB (ops : Array Oper) (fl es tl : List Nat) : Bool :=
 Region.noSelect ops && tl.all (fun j => !earlyB ops fl j) && Nat.beq (fl.length + (es.length + tl.length)) ops.size && ordF ops (earlyB ops fl) (es ++ tl) fl (Array.replicate ops.size false)

def pickL (l : List Oper) : List Nat → Option (List Oper)
  | [] => some []
  | i :: r =>
    (match l[i]? with
     | some o =>
       (match pickL l r with
        | some t => some (o :: t)
        | none => none)
     | none => none)

theorem pickL_cons {l : List Oper} {i : Nat} {r : List Nat} {t : List Oper} (h : pickL l (i :: r) = some t) : ∃ o t', l[i]? = some o ∧ pickL l r = some t' ∧ t = o :: t' := by
 unfold pickL at h
 split at h
 ·rename_i o ho
  split at h
  ·rename_i t' ht
   simp only [Option.some.injEq] at h
   exact ⟨o, t', ho, ht, h.symm⟩
  ·cases h
 ·cases h

def wpFl (P : Program) (ops : Array Oper) (C : World → Prop) (Kf : Act → Prop) : List Oper → Act → Prop
 | [], a => Kf a
 | o :: r, a => if Region.wanted o (yielded ops a.tmps) then ∃ v, (∀ w, C w → (execOp a.eval o).run P w = .ok (.value v) w) ∧ wpFl P ops C Kf r (a.put o.dst v) else wpFl P ops C Kf r (a.put o.dst undef)

def wpCh (P : Program) (ops : Array Oper) (C : World → Prop) (K : Act → World → Prop) (tail : List Oper) : List Oper → Act → World → Prop
 | [], a, w => wpList P ops (onlyN K) tail a w
 | o :: r, a, w => wpList P ops (onlyN fun a' w' => C w' ∧ wpCh P ops C K tail r a' w') [o] a w

theorem wpOp_of_list {i : Nat} {o : Oper} {r : List Oper} {K0 : Act → World → Prop} {Q : Exit → Act → World → Prop} {a : Act} {w : World} (hi : ops[i]? = some o) (h : wpList P ops (onlyN K0) (o :: r) a w) (K' : Act → World → Prop) (hK : ∀ a w, wpList P ops (onlyN K0) r a w → K' a w) : wpOp P ops Q i K' a w := by
 refine wpOp_mono' (K0 := K0) (K1 := wpList P ops (onlyN K0) r) hK ?_
 unfold Go.wpOp
 simp only [hi]
 exact h

theorem chain_tail {early : Nat → Bool} {l : List Oper} : ∀ (tl : List Nat) (tO : List Oper) (listed : Array Bool) (a : Act) (w : World), pickL l tl = some tO → (∀ j ∈ tl, early j = false) → ordC l.toArray tl listed = true → wpList P l.toArray (onlyN K) tO a w → wpAnyC P l.toArray C early K tl.length listed a w
 | [], tO, listed, a, w, hp, _, hB, h => by
  simp only [pickL, Option.some.injEq] at hp; subst hp
  exact ⟨by simpa [ordC] using hB, h⟩
 | i :: r, tO, listed, a, w, hp, he, hB, h => by
  obtain ⟨o, t', ho, ht, rfl⟩ := pickL_cons hp
  simp only [ordC, Bool.and_eq_true, beq_iff_eq] at hB
  refine ⟨by rw [hB.1]; simp, fun j hj => ?_⟩
  rw [hB.1] at hj
  obtain rfl := List.mem_singleton.1 hj
  refine wpOp_of_list (by simpa using ho) h _ fun a' w' h' => ⟨fun hh => (by rw [he j (by simp)] at hh; cases hh), chain_tail r t' _ a' w' ht (fun k hk => he k (by simp [hk])) hB.2 h'⟩

theorem chain_all {early : Nat → Bool} {l : List Oper} {tl : List Nat} {tO : List Oper} (ht : pickL l tl = some tO) (he : ∀ j ∈ tl, early j = false) : ∀ (es : List Nat) (eO : List Oper) (listed : Array Bool) (a : Act) (w : World), pickL l es = some eO → ordC l.toArray (es ++ tl) listed = true → wpCh P l.toArray C K tO eO a w → wpAnyC P l.toArray C early K (es ++ tl).length listed a w
 | [], eO, listed, a, w, hp, hB, h => by
  simp only [pickL, Option.some.injEq] at hp; subst hp
  exact chain_tail tl tO listed a w ht he hB h
 | i :: r, eO, listed, a, w, hp, hB, h => by
  obtain ⟨o, t', ho, hp', rfl⟩ := pickL_cons hp
  simp only [List.cons_append, ordC, Bool.and_eq_true, beq_iff_eq] at hB
  refine ⟨by rw [hB.1]; simp, fun j hj => ?_⟩
  rw [hB.1] at hj
  obtain rfl := List.mem_singleton.1 hj
  unfold wpCh at h
  refine wpOp_of_list (by simpa using ho) h _ fun a' w' h' => ?_
  have h'' : C w' ∧ wpCh P l.toArray C K tO t' a' w' := h'
  exact ⟨fun _ => h''.1, chain_all ht he r t' _ a' w' hp' hB.2 h''.2⟩

theorem float_all {early : Nat → Bool} {l : List Oper} (hsel : ∀ (j : Nat) (o : Oper) cs b, l.toArray[j]? = some o → o.op ≠ .select cs b) {ch : List Nat} {w : World} (hC : C w) :
  ∀ (fl : List Nat) (fO : List Oper) (listed : Array Bool) (a : Act), pickL l fl = some fO → ordF l.toArray early ch fl listed = true →
   wpFl P l.toArray C (fun a' => ∀ L, ordC l.toArray ch L = true → wpAnyC P l.toArray C early K ch.length L a' w) fO a → wpAnyC P l.toArray C early K (fl.length + ch.length) listed a w
 | [], fO, listed, a, hp, hB, h => by
  simp only [pickL, Option.some.injEq] at hp; subst hp
  simpa using h listed hB
 | i :: r, fO, listed, a, hp, hB, h => by
  obtain ⟨o, t', ho, hp', rfl⟩ := pickL_cons hp
  have ho' : l.toArray[i]? = some o := by simpa using ho
  simp only [ordF, ho', Bool.and_eq_true] at hB
  obtain ⟨⟨hB1, hB2⟩, hB3⟩ := hB
  have hfree : ∀ j oj, l.toArray[j]? = some oj → j ≠ i → listed.getD j true = false → (∀ e ∈ oj.after, Region.binds .any e = true → e.on ≠ i) → o.apart l.toArray oj = true ∧ early j = true := by
   intro j oj hj hji hun hno
   have hjlt : j < l.toArray.size := (Array.getElem?_eq_some_iff.1 hj).1
   have := List.all_eq_true.1 hB2 j (List.mem_range.2 hjlt)
   simp only [hj, Bool.or_eq_true, beq_iff_eq, hji, hun, Bool.false_eq_true, false_or, Bool.and_eq_true] at this
   rcases this with hw | hw
   ·exfalso
    simp only [waits, hj] at hw
    obtain ⟨e, he, hb⟩ := Array.any_eq_true'.1 hw
    simp only [Bool.and_eq_true, beq_iff_eq] at hb
    exact hno e he hb.1 hb.2
   ·exact hw
  have hr : i ∈ Region.ready .any l.toArray listed := by simpa using hB1
  have key : ∃ v, FYields P l.toArray C o v a ∧ wpFl P l.toArray C (fun a' => ∀ L, ordC l.toArray ch L = true → wpAnyC P l.toArray C early K ch.length L a' w) t' (a.put o.dst v) := by
   unfold wpFl at h
   split at h
   ·rename_i hw
    obtain ⟨v, h1, h2⟩ := h
    exact ⟨v, .inl ⟨hw, h1⟩, h2⟩
   ·rename_i hw
    exact ⟨undef, .inr ⟨by simpa using hw, rfl⟩, h⟩
  obtain ⟨v, hy, hrest⟩ := key
  have hih := float_all hsel hC r t' (listed.setIfInBounds i true) (a.put o.dst v) hp' hB3 hrest
  have := wpAnyC_first (K := K) ho' hsel (r.length + ch.length) listed a w hC hfree hr hy hih
  rwa [show r.length + ch.length + 1 = (i :: r).length + ch.length by simp; omega] at this
end float

structure FL (P : Program) (N : Nat) (ops : Array Oper) (C : World → Prop) (l : List Oper) (e : Env) (w : World) (Kf : Act → Prop) : Prop where
 go : ∀ a, Fit N e a → wpFl P ops C Kf l a
structure CL (P : Program) (N : Nat) (ops : Array Oper) (C : World → Prop) (tail l : List Oper) (e : Env) (w : World) (Q : Exit → Act → World → Prop) : Prop where
 go : ∀ a m, Fit N e a → wpCh P ops C (fun a w => Q .normal a w) tail l a (at' w m)

section rules
variable {P : Program} {N : Nat} {e : Env} {w : World} {Q : Exit → Act → World → Prop} {C : World → Prop} {ops l tail : List Oper} {Kf : Act → Prop} {T : Tab}
 {d : Nat} {tt : TypeId} {ps : String} {af : Array Edge} {g : Option (Nat × Bool)} {op : Op}

theorem W.regionF {id : Nat} {l fO eO tO : List Oper} (fl es tl : List Nat) (C : World → Prop) (hm : P.follows .mixedOrders = true) (hB : ordB l.toArray fl es tl = true) (h1 : pickL l fl = some fO) (h2 : pickL l es = some eO) (h3 : pickL l tl = some tO) (hC : ∀ m, C (at' w m))
  (h : FL P N l.toArray C fO e w (fun a => ∀ m, wpCh P l.toArray C (fun a w => Q .normal a w) tO eO a (at' w m))) : W P N (.region id l.toArray true) e w Q := by
 refine ⟨fun a m hf => wp_region_any hm ?_⟩
 simp only [ordB, Bool.and_eq_true] at hB
 obtain ⟨⟨⟨hB1, hB2⟩, hB3⟩, hB4⟩ := hB
 have hsel : ∀ (j : Nat) (o : Oper) cs b, l.toArray[j]? = some o → o.op ≠ .select cs b := fun j o cs b ho => Region.noSelect_spec hB1 j o cs b ho
 have he : ∀ j ∈ tl, earlyB l.toArray fl j = false := fun j hj => by simpa using List.all_eq_true.1 hB2 j hj
 have hsz := Nat.eq_of_beq_eq_true hB3
 rw [← hsz]
 refine wpAny_of_C (K := fun a w => Q .normal a w) (C := C) (early := earlyB l.toArray fl) (fun _ _ h => h) _ _ _ _ ?_
 have hch : ∀ (l' : List Oper) (a : Act) (Kf Kf' : Act → Prop), (∀ a, Kf a → Kf' a) → wpFl P l.toArray C Kf l' a → wpFl P l.toArray C Kf' l' a := by
  intro l'
  induction l' with
  | nil => intro a Kf Kf' hk h; exact hk _ h
  | cons o r ih =>
   intro a Kf Kf' hk h
   unfold wpFl at h ⊢
   split at h
   ·rename_i hw; rw [if_pos hw]; obtain ⟨v, h1, h2⟩ := h; exact ⟨v, h1, ih _ _ _ hk h2⟩
   ·rename_i hw; rw [if_neg hw]; exact ih _ _ _ hk h
 have hall := float_all (P := P) (K := fun a w => Q .normal a w) (C := C) (early := earlyB l.toArray fl) (ch := es ++ tl) (w := at' w (m + 1)) hsel (hC (m + 1)) fl fO (Array.replicate l.toArray.size false) a h1 hB4
  (hch _ _ _ _ (fun a' hk L hL => chain_all h3 he es eO L a' _ h2 hL (hk (m + 1))) (h.go a hf))
 rw [List.length_append] at hall
 rw [hsz] at hall ⊢
 exact hall

theorem FL.nil {opsA : Array Oper} {eO tO : List Oper} (h : CL P N opsA C tO eO e w Q) : FL P N opsA C [] e w (fun a => ∀ m, wpCh P opsA C (fun a w => Q .normal a w) tO eO a (at' w m)) := ⟨fun a hf m => h.go a m hf⟩
theorem FL.guardF (hg : gate ops e g = some false) (hd : Nat.blt d N = true) (k : FL P N ops.toArray C l ((d, undef) :: e) w Kf) : FL P N ops.toArray C (⟨some d, op, tt, ps, af, g⟩ :: l) e w Kf := by
 refine ⟨fun a hf => ?_⟩
 unfold wpFl
 rw [if_neg (by rw [gate_wanted hf (o := ⟨some d, op, tt, ps, af, g⟩) hg]; simp)]
 exact k.go _ (hf.put (by simpa [Nat.blt_eq] using hd) undef)
theorem FL.step {v : Value} (hg : gate ops e g = some true) (hd : Nat.blt d N = true) (h : YieldsIn P e C ⟨some d, op, tt, ps, af, g⟩ v) (k : FL P N ops.toArray C l ((d, v) :: e) w Kf) : FL P N ops.toArray C (⟨some d, op, tt, ps, af, g⟩ :: l) e w Kf := by
 refine ⟨fun a hf => ?_⟩
 unfold wpFl
 rw [if_pos (by rw [gate_wanted hf (o := ⟨some d, op, tt, ps, af, g⟩) hg])]
 exact ⟨v, fun w' hw' => h a.eval (fun x u hx => hf.eval hx) w' hw', k.go _ (hf.put (by simpa [Nat.blt_eq] using hd) v)⟩
theorem FL.split {b : Bool} (hd : get e d = some (.bool b)) (ht : b = true → FL P N ops.toArray C l ((d, .bool true) :: e) w Kf) (hf : b = false → FL P N ops.toArray C l ((d, .bool false) :: e) w Kf) : FL P N ops.toArray C l e w Kf := by
 refine ⟨fun a h => ?_⟩
 cases b
 ·exact (hf rfl).go a (h.shadow hd)
 ·exact (ht rfl).go a (h.shadow hd)

theorem CL.nil {opsA : Array Oper} (h : WL P N opsA tail e w (onlyN fun a w => Q .normal a w)) : CL P N opsA C tail [] e w Q := ⟨fun a m hf => h.go a m hf⟩
theorem CL.cons {opsA : Array Oper} {o : Oper} (h : WL P N opsA [o] e w (onlyN fun a' w' => C w' ∧ wpCh P opsA C (fun a w => Q .normal a w) tail l a' w')) : CL P N opsA C tail (o :: l) e w Q := ⟨fun a m hf => h.go a m hf⟩
theorem Z.early {opsA : Array Oper} (hC : ∀ m, C (at' w m)) (h : CL P N opsA C tail l e w Q) : Z N (onlyN fun a' w' => C w' ∧ wpCh P opsA C (fun a w => Q .normal a w) tail l a' w') .normal e w := ⟨fun a m hf => ⟨hC m, h.go a m hf⟩⟩
theorem Z.only (h : Z N Q .normal e w) : Z N (onlyN fun a w => Q .normal a w) .normal e w := ⟨fun a m hf => h.go a m hf⟩

abbrev But (w : World) (b : Option Nat) : World → Prop := fun w' => w.grownBy w' b
theorem But.at (w : World) (b : Option Nat) (m : Nat) : But w b (at' w m) := ⟨rfl, rfl, rfl, Nat.le_refl _, fun _ _ _ => rfl⟩
theorem But.of_at {w w' : World} {b : Option Nat} (h : But w b w') (m : Nat) : But w b (at' w' m) := ⟨h.os, h.tape, h.output, h.size, h.block⟩
theorem But.cell {w w' : World} {b : Option Nat} (h : But w b w') {p : Addr} {v : Value} (hv : w.cell? p = some v) (hb : b ≠ some p.block) : w'.cell? p = some v := by
 rw [← hv]
 unfold World.cell?
 rw [h.block p.block (World.block_lt_of_cell? _ _ hv) (fun hh => hb hh.symm)]
theorem But.cells {w w' : World} {b : Option Nat} (h : But w b w') {k : Nat} (hb : b ≠ some k) : ∀ {off : Nat} {l : List Value}, Cells w k off l → Cells w' k off l
 | _, [], _ => trivial
 | _, _ :: _, ⟨h1, h2⟩ => ⟨h.cell h1 hb, But.cells h hb h2⟩
theorem But.ext {w w' : World} {b : Option Nat} (h : Ext w w') : But w b w' := ⟨h.os, h.tape, h.output, h.size, fun k hk _ => h.block k hk⟩
theorem But.trans {w w1 w2 : World} {b : Option Nat} (h : But w b w1) (k : But w1 b w2) : But w b w2 := ⟨k.os.trans h.os, k.tape.trans h.tape, k.output.trans h.output, Nat.le_trans h.size k.size, fun q hq hne => (k.block q (Nat.lt_of_lt_of_le hq h.size) hne).trans (h.block q hq hne)⟩
theorem But.upd {w w' : World} {B : Nat} {a : Option Addr} (h : Upd B a w w') : But w (blk a) w' := h.grown

theorem FL.pev {v : Value} (hT : OkTab P T) (hg : gate ops e g = some true) (hd : Nat.blt d N = true) (h : pev T e op = some v) (k : FL P N ops.toArray C l ((d, v) :: e) w Kf) : FL P N ops.toArray C (⟨some d, op, tt, ps, af, g⟩ :: l) e w Kf :=
 FL.step hg hd (pev_yields hT h).in k
theorem FL.add {t ty : TypeId} {x y : Operand} {a b : Int} (hg : gate ops e g = some true) (hd : Nat.blt d N = true) (hx : ev e x = some (.int .i64 a)) (hy : ev e y = some (.int .i64 b)) (h : inI64 (a + b)) (k : FL P N ops.toArray C l ((d, .int .i64 (a + b)) :: e) w Kf) : FL P N ops.toArray C (⟨some d, .binOp .add t x y ty, tt, ps, af, g⟩ :: l) e w Kf :=
 FL.step hg hd (yadd hx hy h).in k
theorem FL.sub {t ty : TypeId} {x y : Operand} {a b : Int} (hg : gate ops e g = some true) (hd : Nat.blt d N = true) (hx : ev e x = some (.int .i64 a)) (hy : ev e y = some (.int .i64 b)) (h : inI64 (a - b)) (k : FL P N ops.toArray C l ((d, .int .i64 (a - b)) :: e) w Kf) : FL P N ops.toArray C (⟨some d, .binOp .sub t x y ty, tt, ps, af, g⟩ :: l) e w Kf :=
 FL.step hg hd (ysub hx hy h).in k
theorem FL.mul {t ty : TypeId} {x y : Operand} {a b : Int} (hg : gate ops e g = some true) (hd : Nat.blt d N = true) (hx : ev e x = some (.int .i64 a)) (hy : ev e y = some (.int .i64 b)) (h : inI64 (a * b)) (k : FL P N ops.toArray C l ((d, .int .i64 (a * b)) :: e) w Kf) : FL P N ops.toArray C (⟨some d, .binOp .mul t x y ty, tt, ps, af, g⟩ :: l) e w Kf :=
 FL.step hg hd (ymul hx hy h).in k
theorem FL.quo {t ty : TypeId} {x y : Operand} {a b : Int} (hg : gate ops e g = some true) (hd : Nat.blt d N = true) (hx : ev e x = some (.int .i64 a)) (hy : ev e y = some (.int .i64 b)) (h : 0 ≤ a ∧ a ≤ 9223372036854775807 ∧ 1 ≤ b) (k : FL P N ops.toArray C l ((d, .int .i64 (a / b)) :: e) w Kf) : FL P N ops.toArray C (⟨some d, .binOp .quo t x y ty, tt, ps, af, g⟩ :: l) e w Kf :=
 FL.step hg hd (yquo hx hy h).in k
theorem FL.rem {t ty : TypeId} {x y : Operand} {a b : Int} (hg : gate ops e g = some true) (hd : Nat.blt d N = true) (hx : ev e x = some (.int .i64 a)) (hy : ev e y = some (.int .i64 b)) (h : 0 ≤ a ∧ 1 ≤ b) (k : FL P N ops.toArray C l ((d, .int .i64 (a % b)) :: e) w Kf) : FL P N ops.toArray C (⟨some d, .binOp .rem t x y ty, tt, ps, af, g⟩ :: l) e w Kf :=
 FL.step hg hd (yrem hx hy h).in k
theorem FL.load {bk : Option Nat} {t : TypeId} {x : Operand} {p : Addr} {v : Value} {i : TI} (hT : OkTab P T) (hg : gate ops e g = some true) (hd : Nat.blt d N = true) (hx : ev e x = some (.pointer (some p))) (ht : tget T t = some i) (ha : isAggD i.desc = false) (hv : w.cell? p = some v) (hb : bk ≠ some p.block)
  (k : FL P N ops.toArray (But w bk) l ((d, v) :: e) w Kf) : FL P N ops.toArray (But w bk) (⟨some d, .load t x, tt, ps, af, g⟩ :: l) e w Kf := by
 refine FL.step hg hd ?_ k
 intro ρ hρ w' hw'
 have h1 := run_isAgg' (hT.at ht); rw [ha] at h1
 have h2 := But.cell hw' hv hb
 simp [execOp, hρ _ _ hx, Instr.loadAt, Instr.sureAddr, loadVar, h1, h2]
theorem FL.loadA {bk : Option Nat} {t : TypeId} {x : Operand} {b off : Nat} {vs : List Value} {i : TI} (hT : OkTab P T) (hg : gate ops e g = some true) (hd : Nat.blt d N = true) (hx : ev e x = some (.pointer (some ⟨b, off, none⟩))) (ht : tget T t = some i) (ha : isAggD i.desc = true) (hv : Cells w b off vs) (hs : i.size = vs.length) (hb : bk ≠ some b)
  (k : FL P N ops.toArray (But w bk) l ((d, .agg vs.toArray) :: e) w Kf) : FL P N ops.toArray (But w bk) (⟨some d, .load t x, tt, ps, af, g⟩ :: l) e w Kf := by
 refine FL.step hg hd ?_ k
 intro ρ hρ w' hw'
 have h1 := run_isAgg' (hT.at ht); rw [ha] at h1
 have h3 := run_sizeOf' (hT.at ht); rw [hs] at h3
 have h2 := run_loadCellsFrom (P := P) (acc := #[]) (off := off) (i := 0) (But.cells hw' hb hv)
 simp [execOp, hρ _ _ hx, Instr.loadAt, Instr.sureAddr, loadVar, h1, h3, loadCells, h2]
theorem FL.index {t : TypeId} {x y : Operand} {α : Type} {s : Nat} {enc : α → List Value} {a : Option Addr} {xs : List α} {n cap : Nat} {kk : IntKind} {i : Int} {ti ei : TI} {el : TypeId} {z : α} {w0 : World}
  (hT : OkTab P T) (hg : gate ops e g = some true) (hd : Nat.blt d N = true) (hx : ev e x = some (.slice a n cap)) (hy : ev e y = some (.int kk i)) (ht : tget T t = some ti) (htd : ti.desc = .slice el) (he : tget T el = some ei) (hs : ei.size = s)
  (R : Row s enc w0 a xs) (E : Ext w0 w) (hn : xs.length = n) (h0 : 0 ≤ i) (hz : xs[i.toNat]? = some z) (hne : enc z ≠ [])
  (k : ∀ b off, Cells w b off (enc z) → b < w0.heap.size → FL P N ops.toArray C l ((d, .pointer (some ⟨b, off, none⟩)) :: e) w Kf) : FL P N ops.toArray C (⟨some d, .indexAddr t x y, tt, ps, af, g⟩ :: l) e w Kf := by
 obtain ⟨b, off, ha, hc⟩ := R.elem _ _ hz
 have hlt : b < w0.heap.size := by
  cases hez : enc z with
  | nil => exact absurd hez hne
  | cons u r => rw [hez] at hc; exact World.block_lt_of_cell? _ _ hc.1
 refine FL.step (v := .pointer (some ⟨b, off + i.toNat * s, none⟩)) hg hd (Yields.in ?_) (k b (off + i.toNat * s) (hc.ext E) hlt)
 intro ρ hρ w'
 have hlt : i.toNat < xs.length := (List.getElem?_eq_some_iff.1 hz).1
 have h1 := run_underlying' (hT.at ht); rw [htd] at h1
 have h2 := run_sizeOf' (hT.at he); rw [hs] at h2
 have h3 : i < (n : Int) := by omega
 subst ha
 simp [execOp, hρ _ _ hx, hρ _ _ hy, Instr.indexAt, asIntOf, h1, h2, h0, h3, Addr_add_none]
theorem FL.indexO {t : TypeId} {α : Type} {s : Nat} {enc : α → List Value} {B : Nat} {ti ei : TI} {el : TypeId} {x y : Operand} {a : Option Addr} {xs : List α} {n cap : Nat} {kk : IntKind} {i : Int} {z : α} {wo : World} (hT : OkTab P T) (hg : gate ops e g = some true) (hd : Nat.blt d N = true)
  (hx : ev e x = some (.slice a n cap)) (hy : ev e y = some (.int kk i)) (ht : tget T t = some ti) (htd : ti.desc = .slice el) (he : tget T el = some ei) (hs : ei.size = s)
  (ho : Own s enc el B wo a cap xs) (E : Ext wo w) (hE : Enc s enc) (hn : xs.length = n) (h0 : 0 ≤ i) (hz : xs[i.toNat]? = some z)
  (k : ∀ gb, a = some ⟨gb, 0, none⟩ → Cells w gb (i.toNat * s) (enc z) → FL P N ops.toArray C l ((d, .pointer (some ⟨gb, i.toNat * s, none⟩)) :: e) w Kf) : FL P N ops.toArray C (⟨some d, .indexAddr t x y, tt, ps, af, g⟩ :: l) e w Kf := by
 obtain ⟨gb, ha, hc, hy'⟩ := yindexO (P := P) (dd := some d) (C := Same w) (t := t) (tt := tt) (x := x) (y := y) (ps := ps) (af := af) (g := g) hT hx hy ht htd he hs hE ho E hn h0 hz
 exact FL.step hg hd hy'.in (k gb ha hc)
end rules

section gsplit
variable {P : Program} {N : Nat} {e : Env} {w : World} {C : World → Prop} {ops l : List Oper} {Kf : Act → Prop} {o : Option Tmp} {op : Op} {tt : TypeId} {ps : String} {af : Array Edge} {j : Nat} {g : Bool} {d : Nat} {p : Prop} {b : Bool}
theorem FL.gD (hj : dstAt ops j = some d) (hd : get e d = some (.bool (dec p)))
  (ht : p → FL P N ops.toArray C (⟨o, op, tt, ps, af, some (j, g)⟩ :: l) ((d, .bool true) :: e) w Kf) (hf : ¬ p → FL P N ops.toArray C (⟨o, op, tt, ps, af, some (j, g)⟩ :: l) ((d, .bool false) :: e) w Kf) :
  FL P N ops.toArray C (⟨o, op, tt, ps, af, some (j, g)⟩ :: l) e w Kf := FL.split hd (fun h => ht (of_dec h)) (fun h => hf (of_dec_false h))
theorem FL.gB (hj : dstAt ops j = some d) (hd : get e d = some (.bool b))
  (ht : b = true → FL P N ops.toArray C (⟨o, op, tt, ps, af, some (j, g)⟩ :: l) ((d, .bool true) :: e) w Kf) (hf : b = false → FL P N ops.toArray C (⟨o, op, tt, ps, af, some (j, g)⟩ :: l) ((d, .bool false) :: e) w Kf) :
  FL P N ops.toArray C (⟨o, op, tt, ps, af, some (j, g)⟩ :: l) e w Kf := FL.split hd ht hf
theorem FL.gT (hj : dstAt ops j = some d) (hd : get e d = some (.bool b)) (hb : b = true)
  (k : FL P N ops.toArray C (⟨o, op, tt, ps, af, some (j, g)⟩ :: l) ((d, .bool true) :: e) w Kf) : FL P N ops.toArray C (⟨o, op, tt, ps, af, some (j, g)⟩ :: l) e w Kf :=
 FL.split hd (fun h => k) (fun h => absurd (h.symm.trans hb) (by decide))
theorem FL.gF (hj : dstAt ops j = some d) (hd : get e d = some (.bool b)) (hb : b = false)
  (k : FL P N ops.toArray C (⟨o, op, tt, ps, af, some (j, g)⟩ :: l) ((d, .bool false) :: e) w Kf) : FL P N ops.toArray C (⟨o, op, tt, ps, af, some (j, g)⟩ :: l) e w Kf :=
 FL.split hd (fun h => absurd (h.symm.trans hb) (by decide)) (fun h => k)
end gsplit
end Go.Lt
namespace Go.Proofs.Yteidpnpbfagaeaa
open Go.Lt
def T : Tab := [(2, ⟨.int .i64, 1, 8, .int .i64 0⟩),
 (3, ⟨.int .i64, 1, 8, .int .i64 0⟩),
 (4, ⟨.bool, 1, 1, .bool false⟩),
 (5, ⟨.int .u8, 1, 1, .int .u8 0⟩),
 (9, ⟨.string, 1, 16, .string ⟨#[]⟩⟩),
 (12, ⟨.int .u64, 1, 8, .int .u64 0⟩),
 (21, ⟨.int .i32, 1, 4, .int .i32 0⟩),
 (22, ⟨.slice 3, 1, 24, .slice none 0 0⟩),
 (23, ⟨.slice 87, 1, 24, .slice none 0 0⟩),
 (24, ⟨.slice 89, 1, 24, .slice none 0 0⟩),
 (25, ⟨.slice 150, 1, 24, .slice none 0 0⟩),
 (26, ⟨.struct #[{ name := "Max", type := 3, offset := 0, embedded := false, tag := "", pkgPath := "", byteOffset := 0 }, { name := "Inputs", type := 22, offset := 1, embedded := false, tag := "", pkgPath := "", byteOffset := 8 }, { name := "Latches", type := 23, offset := 2, embedded := false, tag := "", pkgPath := "", byteOffset := 32 }, { name := "Outs", type := 22, offset := 3, embedded := false, tag := "", pkgPath := "", byteOffset := 56 }, { name := "Bads", type := 22, offset := 4, embedded := false, tag := "", pkgPath := "", byteOffset := 80 }, { name := "Cons", type := 22, offset := 5, embedded := false, tag := "", pkgPath := "", byteOffset := 104 }, { name := "Gates", type := 24, offset := 6, embedded := false, tag := "", pkgPath := "", byteOffset := 128 }, { name := "Symbols", type := 25, offset := 7, embedded := false, tag := "", pkgPath := "", byteOffset := 152 }, { name := "Comment", type := 9, offset := 8, embedded := false, tag := "", pkgPath := "", byteOffset := 176 }], 9, 192, .agg #[.int .i64 0, .slice none 0 0, .slice none 0 0, .slice none 0 0, .slice none 0 0, .slice none 0 0, .slice none 0 0, .slice none 0 0, .string ⟨#[]⟩]⟩),
 (27, ⟨.struct #[{ name := "Max", type := 3, offset := 0, embedded := false, tag := "", pkgPath := "", byteOffset := 0 }, { name := "Inputs", type := 22, offset := 1, embedded := false, tag := "", pkgPath := "", byteOffset := 8 }, { name := "Latches", type := 23, offset := 2, embedded := false, tag := "", pkgPath := "", byteOffset := 32 }, { name := "Outs", type := 22, offset := 3, embedded := false, tag := "", pkgPath := "", byteOffset := 56 }, { name := "Bads", type := 22, offset := 4, embedded := false, tag := "", pkgPath := "", byteOffset := 80 }, { name := "Cons", type := 22, offset := 5, embedded := false, tag := "", pkgPath := "", byteOffset := 104 }, { name := "Gates", type := 24, offset := 6, embedded := false, tag := "", pkgPath := "", byteOffset := 128 }, { name := "Symbols", type := 25, offset := 7, embedded := false, tag := "", pkgPath := "", byteOffset := 152 }, { name := "Comment", type := 9, offset := 8, embedded := false, tag := "", pkgPath := "", byteOffset := 176 }], 9, 192, .agg #[.int .i64 0, .slice none 0 0, .slice none 0 0, .slice none 0 0, .slice none 0 0, .slice none 0 0, .slice none 0 0, .slice none 0 0, .string ⟨#[]⟩]⟩),
 (28, ⟨.slice 22, 1, 24, .slice none 0 0⟩),
 (29, ⟨.struct #[{ name := "Prop", type := 3, offset := 0, embedded := false, tag := "", pkgPath := "", byteOffset := 0 }, { name := "Near", type := 4, offset := 1, embedded := false, tag := "", pkgPath := "", byteOffset := 8 }, { name := "Out", type := 28, offset := 2, embedded := false, tag := "", pkgPath := "", byteOffset := 16 }, { name := "Into", type := 28, offset := 3, embedded := false, tag := "", pkgPath := "", byteOffset := 40 }], 4, 64, .agg #[.int .i64 0, .bool false, .slice none 0 0, .slice none 0 0]⟩),
 (30, ⟨.struct #[{ name := "Prop", type := 3, offset := 0, embedded := false, tag := "", pkgPath := "", byteOffset := 0 }, { name := "Near", type := 4, offset := 1, embedded := false, tag := "", pkgPath := "", byteOffset := 8 }, { name := "Out", type := 28, offset := 2, embedded := false, tag := "", pkgPath := "", byteOffset := 16 }, { name := "Into", type := 28, offset := 3, embedded := false, tag := "", pkgPath := "", byteOffset := 40 }], 4, 64, .agg #[.int .i64 0, .bool false, .slice none 0 0, .slice none 0 0]⟩),
 (31, ⟨.slice 4, 1, 24, .slice none 0 0⟩),
 (35, ⟨.slice 105, 1, 24, .slice none 0 0⟩),
 (42, ⟨.pointer 107, 1, 8, .pointer none⟩),
 (52, ⟨.slice 31, 1, 24, .slice none 0 0⟩),
 (53, ⟨.struct #[{ name := "Start", type := 31, offset := 0, embedded := false, tag := "", pkgPath := "", byteOffset := 0 }, { name := "Inputs", type := 52, offset := 1, embedded := false, tag := "", pkgPath := "", byteOffset := 24 }], 2, 48, .agg #[.slice none 0 0, .slice none 0 0]⟩),
 (54, ⟨.struct #[{ name := "Start", type := 31, offset := 0, embedded := false, tag := "", pkgPath := "", byteOffset := 0 }, { name := "Inputs", type := 52, offset := 1, embedded := false, tag := "", pkgPath := "", byteOffset := 24 }], 2, 48, .agg #[.slice none 0 0, .slice none 0 0]⟩),
 (59, ⟨.struct #[{ name := "Start", type := 31, offset := 0, embedded := false, tag := "", pkgPath := "", byteOffset := 0 }, { name := "Bad", type := 31, offset := 1, embedded := false, tag := "", pkgPath := "", byteOffset := 24 }, { name := "Next", type := 28, offset := 2, embedded := false, tag := "", pkgPath := "", byteOffset := 48 }], 3, 72, .agg #[.slice none 0 0, .slice none 0 0, .slice none 0 0]⟩),
 (60, ⟨.struct #[{ name := "Start", type := 31, offset := 0, embedded := false, tag := "", pkgPath := "", byteOffset := 0 }, { name := "Bad", type := 31, offset := 1, embedded := false, tag := "", pkgPath := "", byteOffset := 24 }, { name := "Next", type := 28, offset := 2, embedded := false, tag := "", pkgPath := "", byteOffset := 48 }], 3, 72, .agg #[.slice none 0 0, .slice none 0 0, .slice none 0 0]⟩),
 (67, ⟨.pointer 126, 1, 8, .pointer none⟩),
 (68, ⟨.int .i64, 1, 8, .int .i64 0⟩),
 (82, ⟨.struct #[{ name := "Kind", type := 3, offset := 0, embedded := false, tag := "", pkgPath := "", byteOffset := 0 }, { name := "Prop", type := 3, offset := 1, embedded := false, tag := "", pkgPath := "", byteOffset := 8 }, { name := "Run", type := 54, offset := 2, embedded := false, tag := "", pkgPath := "", byteOffset := 16 }], 4, 64, .agg #[.int .i64 0, .int .i64 0, .slice none 0 0, .slice none 0 0]⟩),
 (83, ⟨.struct #[{ name := "Kind", type := 3, offset := 0, embedded := false, tag := "", pkgPath := "", byteOffset := 0 }, { name := "Prop", type := 3, offset := 1, embedded := false, tag := "", pkgPath := "", byteOffset := 8 }, { name := "Run", type := 54, offset := 2, embedded := false, tag := "", pkgPath := "", byteOffset := 16 }], 4, 64, .agg #[.int .i64 0, .int .i64 0, .slice none 0 0, .slice none 0 0]⟩),
 (86, ⟨.struct #[{ name := "Lit", type := 3, offset := 0, embedded := false, tag := "", pkgPath := "", byteOffset := 0 }, { name := "Next", type := 3, offset := 1, embedded := false, tag := "", pkgPath := "", byteOffset := 8 }, { name := "Reset", type := 3, offset := 2, embedded := false, tag := "", pkgPath := "", byteOffset := 16 }], 3, 24, .agg #[.int .i64 0, .int .i64 0, .int .i64 0]⟩),
 (87, ⟨.struct #[{ name := "Lit", type := 3, offset := 0, embedded := false, tag := "", pkgPath := "", byteOffset := 0 }, { name := "Next", type := 3, offset := 1, embedded := false, tag := "", pkgPath := "", byteOffset := 8 }, { name := "Reset", type := 3, offset := 2, embedded := false, tag := "", pkgPath := "", byteOffset := 16 }], 3, 24, .agg #[.int .i64 0, .int .i64 0, .int .i64 0]⟩),
 (88, ⟨.struct #[{ name := "Lit", type := 3, offset := 0, embedded := false, tag := "", pkgPath := "", byteOffset := 0 }, { name := "A", type := 3, offset := 1, embedded := false, tag := "", pkgPath := "", byteOffset := 8 }, { name := "B", type := 3, offset := 2, embedded := false, tag := "", pkgPath := "", byteOffset := 16 }], 3, 24, .agg #[.int .i64 0, .int .i64 0, .int .i64 0]⟩),
 (89, ⟨.struct #[{ name := "Lit", type := 3, offset := 0, embedded := false, tag := "", pkgPath := "", byteOffset := 0 }, { name := "A", type := 3, offset := 1, embedded := false, tag := "", pkgPath := "", byteOffset := 8 }, { name := "B", type := 3, offset := 2, embedded := false, tag := "", pkgPath := "", byteOffset := 16 }], 3, 24, .agg #[.int .i64 0, .int .i64 0, .int .i64 0]⟩),
 (94, ⟨.pointer 142, 1, 8, .pointer none⟩),
 (100, ⟨.pointer 102, 1, 8, .pointer none⟩),
 (101, ⟨.struct #[{ name := "N", type := 35, offset := 0, embedded := false, tag := "", pkgPath := "", byteOffset := 0 }], 1, 24, .agg #[.slice none 0 0]⟩),
 (102, ⟨.struct #[{ name := "N", type := 35, offset := 0, embedded := false, tag := "", pkgPath := "", byteOffset := 0 }], 1, 24, .agg #[.slice none 0 0]⟩),
 (104, ⟨.struct #[{ name := "A", type := 3, offset := 0, embedded := false, tag := "", pkgPath := "", byteOffset := 0 }, { name := "B", type := 3, offset := 1, embedded := false, tag := "", pkgPath := "", byteOffset := 8 }], 2, 16, .agg #[.int .i64 0, .int .i64 0]⟩),
 (105, ⟨.struct #[{ name := "A", type := 3, offset := 0, embedded := false, tag := "", pkgPath := "", byteOffset := 0 }, { name := "B", type := 3, offset := 1, embedded := false, tag := "", pkgPath := "", byteOffset := 8 }], 2, 16, .agg #[.int .i64 0, .int .i64 0]⟩),
 (106, ⟨.struct #[{ name := "C", type := 27, offset := 0, embedded := false, tag := "", pkgPath := "", byteOffset := 0 }, { name := "N", type := 35, offset := 9, embedded := false, tag := "", pkgPath := "", byteOffset := 192 }, { name := "At", type := 22, offset := 10, embedded := false, tag := "", pkgPath := "", byteOffset := 216 }], 11, 240, .agg #[.int .i64 0, .slice none 0 0, .slice none 0 0, .slice none 0 0, .slice none 0 0, .slice none 0 0, .slice none 0 0, .slice none 0 0, .string ⟨#[]⟩, .slice none 0 0, .slice none 0 0]⟩),
 (107, ⟨.struct #[{ name := "C", type := 27, offset := 0, embedded := false, tag := "", pkgPath := "", byteOffset := 0 }, { name := "N", type := 35, offset := 9, embedded := false, tag := "", pkgPath := "", byteOffset := 192 }, { name := "At", type := 22, offset := 10, embedded := false, tag := "", pkgPath := "", byteOffset := 216 }], 11, 240, .agg #[.int .i64 0, .slice none 0 0, .slice none 0 0, .slice none 0 0, .slice none 0 0, .slice none 0 0, .slice none 0 0, .slice none 0 0, .string ⟨#[]⟩, .slice none 0 0, .slice none 0 0]⟩),
 (111, ⟨.struct #[{ name := "c", type := 27, offset := 0, embedded := false, tag := "", pkgPath := "latchet/coi", byteOffset := 0 }, { name := "net", type := 35, offset := 9, embedded := false, tag := "", pkgPath := "latchet/coi", byteOffset := 192 }, { name := "at", type := 22, offset := 10, embedded := false, tag := "", pkgPath := "latchet/coi", byteOffset := 216 }], 11, 240, .agg #[.int .i64 0, .slice none 0 0, .slice none 0 0, .slice none 0 0, .slice none 0 0, .slice none 0 0, .slice none 0 0, .slice none 0 0, .string ⟨#[]⟩, .slice none 0 0, .slice none 0 0]⟩),
 (112, ⟨.struct #[{ name := "c", type := 27, offset := 0, embedded := false, tag := "", pkgPath := "latchet/coi", byteOffset := 0 }, { name := "net", type := 35, offset := 9, embedded := false, tag := "", pkgPath := "latchet/coi", byteOffset := 192 }, { name := "at", type := 22, offset := 10, embedded := false, tag := "", pkgPath := "latchet/coi", byteOffset := 216 }], 11, 240, .agg #[.int .i64 0, .slice none 0 0, .slice none 0 0, .slice none 0 0, .slice none 0 0, .slice none 0 0, .slice none 0 0, .slice none 0 0, .string ⟨#[]⟩, .slice none 0 0, .slice none 0 0]⟩),
 (113, ⟨.struct #[{ name := "view", type := 112, offset := 0, embedded := true, tag := "", pkgPath := "latchet/coi", byteOffset := 0 }, { name := "stuck", type := 22, offset := 11, embedded := false, tag := "", pkgPath := "latchet/coi", byteOffset := 240 }, { name := "store", type := 94, offset := 12, embedded := false, tag := "", pkgPath := "latchet/coi", byteOffset := 264 }, { name := "own", type := 22, offset := 13, embedded := false, tag := "", pkgPath := "latchet/coi", byteOffset := 272 }], 14, 296, .agg #[.int .i64 0, .slice none 0 0, .slice none 0 0, .slice none 0 0, .slice none 0 0, .slice none 0 0, .slice none 0 0, .slice none 0 0, .string ⟨#[]⟩, .slice none 0 0, .slice none 0 0, .slice none 0 0, .pointer none, .slice none 0 0]⟩),
 (114, ⟨.struct #[{ name := "view", type := 112, offset := 0, embedded := true, tag := "", pkgPath := "latchet/coi", byteOffset := 0 }, { name := "stuck", type := 22, offset := 11, embedded := false, tag := "", pkgPath := "latchet/coi", byteOffset := 240 }, { name := "store", type := 94, offset := 12, embedded := false, tag := "", pkgPath := "latchet/coi", byteOffset := 264 }, { name := "own", type := 22, offset := 13, embedded := false, tag := "", pkgPath := "latchet/coi", byteOffset := 272 }], 14, 296, .agg #[.int .i64 0, .slice none 0 0, .slice none 0 0, .slice none 0 0, .slice none 0 0, .slice none 0 0, .slice none 0 0, .slice none 0 0, .string ⟨#[]⟩, .slice none 0 0, .slice none 0 0, .slice none 0 0, .pointer none, .slice none 0 0]⟩),
 (124, ⟨.slice 129, 1, 24, .slice none 0 0⟩),
 (125, ⟨.struct #[{ name := "c", type := 27, offset := 0, embedded := false, tag := "", pkgPath := "latchet/unroll", byteOffset := 0 }, { name := "net", type := 35, offset := 9, embedded := false, tag := "", pkgPath := "latchet/unroll", byteOffset := 192 }, { name := "at", type := 22, offset := 10, embedded := false, tag := "", pkgPath := "latchet/unroll", byteOffset := 216 }, { name := "store", type := 94, offset := 11, embedded := false, tag := "", pkgPath := "latchet/unroll", byteOffset := 240 }, { name := "frames", type := 124, offset := 12, embedded := false, tag := "", pkgPath := "latchet/unroll", byteOffset := 248 }, { name := "states", type := 28, offset := 13, embedded := false, tag := "", pkgPath := "latchet/unroll", byteOffset := 272 }], 14, 296, .agg #[.int .i64 0, .slice none 0 0, .slice none 0 0, .slice none 0 0, .slice none 0 0, .slice none 0 0, .slice none 0 0, .slice none 0 0, .string ⟨#[]⟩, .slice none 0 0, .slice none 0 0, .pointer none, .slice none 0 0, .slice none 0 0]⟩),
 (126, ⟨.struct #[{ name := "c", type := 27, offset := 0, embedded := false, tag := "", pkgPath := "latchet/unroll", byteOffset := 0 }, { name := "net", type := 35, offset := 9, embedded := false, tag := "", pkgPath := "latchet/unroll", byteOffset := 192 }, { name := "at", type := 22, offset := 10, embedded := false, tag := "", pkgPath := "latchet/unroll", byteOffset := 216 }, { name := "store", type := 94, offset := 11, embedded := false, tag := "", pkgPath := "latchet/unroll", byteOffset := 240 }, { name := "frames", type := 124, offset := 12, embedded := false, tag := "", pkgPath := "latchet/unroll", byteOffset := 248 }, { name := "states", type := 28, offset := 13, embedded := false, tag := "", pkgPath := "latchet/unroll", byteOffset := 272 }], 14, 296, .agg #[.int .i64 0, .slice none 0 0, .slice none 0 0, .slice none 0 0, .slice none 0 0, .slice none 0 0, .slice none 0 0, .slice none 0 0, .string ⟨#[]⟩, .slice none 0 0, .slice none 0 0, .pointer none, .slice none 0 0, .slice none 0 0]⟩),
 (127, ⟨.slice 131, 1, 24, .slice none 0 0⟩),
 (128, ⟨.struct #[{ name := "vars", type := 127, offset := 0, embedded := false, tag := "", pkgPath := "latchet/unroll", byteOffset := 0 }, { name := "ins", type := 22, offset := 1, embedded := false, tag := "", pkgPath := "latchet/unroll", byteOffset := 24 }], 2, 48, .agg #[.slice none 0 0, .slice none 0 0]⟩),
 (129, ⟨.struct #[{ name := "vars", type := 127, offset := 0, embedded := false, tag := "", pkgPath := "latchet/unroll", byteOffset := 0 }, { name := "ins", type := 22, offset := 1, embedded := false, tag := "", pkgPath := "latchet/unroll", byteOffset := 24 }], 2, 48, .agg #[.slice none 0 0, .slice none 0 0]⟩),
 (130, ⟨.array 2 3, 2, 16, .agg #[.int .i64 0, .int .i64 0]⟩),
 (131, ⟨.array 2 3, 2, 16, .agg #[.int .i64 0, .int .i64 0]⟩),
 (140, ⟨.map 105 3, 1, 8, .map none⟩),
 (141, ⟨.struct #[{ name := "net", type := 35, offset := 0, embedded := false, tag := "", pkgPath := "latchet/aig", byteOffset := 0 }, { name := "gates", type := 140, offset := 1, embedded := false, tag := "", pkgPath := "latchet/aig", byteOffset := 24 }], 2, 32, .agg #[.slice none 0 0, .map none]⟩),
 (142, ⟨.struct #[{ name := "net", type := 35, offset := 0, embedded := false, tag := "", pkgPath := "latchet/aig", byteOffset := 0 }, { name := "gates", type := 140, offset := 1, embedded := false, tag := "", pkgPath := "latchet/aig", byteOffset := 24 }], 2, 32, .agg #[.slice none 0 0, .map none]⟩),
 (144, ⟨.map 4 97, 1, 8, .map none⟩),
 (149, ⟨.struct #[{ name := "Kind", type := 5, offset := 0, embedded := false, tag := "", pkgPath := "", byteOffset := 0 }, { name := "Index", type := 3, offset := 1, embedded := false, tag := "", pkgPath := "", byteOffset := 8 }, { name := "Name", type := 9, offset := 2, embedded := false, tag := "", pkgPath := "", byteOffset := 16 }], 3, 32, .agg #[.int .u8 0, .int .i64 0, .string ⟨#[]⟩]⟩),
 (150, ⟨.struct #[{ name := "Kind", type := 5, offset := 0, embedded := false, tag := "", pkgPath := "", byteOffset := 0 }, { name := "Index", type := 3, offset := 1, embedded := false, tag := "", pkgPath := "", byteOffset := 8 }, { name := "Name", type := 9, offset := 2, embedded := false, tag := "", pkgPath := "", byteOffset := 16 }], 3, 32, .agg #[.int .u8 0, .int .i64 0, .string ⟨#[]⟩]⟩),
 (152, ⟨.map 3 4, 1, 8, .map none⟩),
 (162, ⟨.slice 179, 1, 24, .slice none 0 0⟩),
 (167, ⟨.map 3 3, 1, 8, .map none⟩),
 (168, ⟨.pointer 183, 1, 8, .pointer none⟩),
 (178, ⟨.int .u64, 1, 8, .int .u64 0⟩),
 (179, ⟨.int .u64, 1, 8, .int .u64 0⟩),
 (181, ⟨.slice 187, 1, 24, .slice none 0 0⟩),
 (182, ⟨.struct #[{ name := "scores", type := 181, offset := 0, embedded := false, tag := "", pkgPath := "latchet/heap", byteOffset := 0 }, { name := "tree", type := 22, offset := 1, embedded := false, tag := "", pkgPath := "latchet/heap", byteOffset := 24 }, { name := "at", type := 22, offset := 2, embedded := false, tag := "", pkgPath := "latchet/heap", byteOffset := 48 }], 3, 72, .agg #[.slice none 0 0, .slice none 0 0, .slice none 0 0]⟩),
 (183, ⟨.struct #[{ name := "scores", type := 181, offset := 0, embedded := false, tag := "", pkgPath := "latchet/heap", byteOffset := 0 }, { name := "tree", type := 22, offset := 1, embedded := false, tag := "", pkgPath := "latchet/heap", byteOffset := 24 }, { name := "at", type := 22, offset := 2, embedded := false, tag := "", pkgPath := "latchet/heap", byteOffset := 48 }], 3, 72, .agg #[.slice none 0 0, .slice none 0 0, .slice none 0 0]⟩),
 (195, ⟨.int .u32, 1, 4, .int .u32 0⟩),
 (199, ⟨.pointer 5, 1, 8, .pointer none⟩)]
theorem tOk : OkTab Try.prog T := ⟨⟨by kernel_rfl, by kernel_rfl⟩, ⟨by kernel_rfl, by kernel_rfl⟩, ⟨by kernel_rfl, by kernel_rfl⟩, ⟨by kernel_rfl, by kernel_rfl⟩, ⟨by kernel_rfl, by kernel_rfl⟩, ⟨by kernel_rfl, by kernel_rfl⟩, ⟨by kernel_rfl, by kernel_rfl⟩, ⟨by kernel_rfl, by kernel_rfl⟩, ⟨by kernel_rfl, by kernel_rfl⟩, ⟨by kernel_rfl, by kernel_rfl⟩, ⟨by kernel_rfl, by kernel_rfl⟩, ⟨by kernel_rfl, by kernel_rfl⟩, ⟨by kernel_rfl, by kernel_rfl⟩, ⟨by kernel_rfl, by kernel_rfl⟩, ⟨by kernel_rfl, by kernel_rfl⟩, ⟨by kernel_rfl, by kernel_rfl⟩, ⟨by kernel_rfl, by kernel_rfl⟩, ⟨by kernel_rfl, by kernel_rfl⟩, ⟨by kernel_rfl, by kernel_rfl⟩, ⟨by kernel_rfl, by kernel_rfl⟩, ⟨by kernel_rfl, by kernel_rfl⟩, ⟨by kernel_rfl, by kernel_rfl⟩, ⟨by kernel_rfl, by kernel_rfl⟩, ⟨by kernel_rfl, by kernel_rfl⟩, ⟨by kernel_rfl, by kernel_rfl⟩, ⟨by kernel_rfl, by kernel_rfl⟩, ⟨by kernel_rfl, by kernel_rfl⟩, ⟨by kernel_rfl, by kernel_rfl⟩, ⟨by kernel_rfl, by kernel_rfl⟩, ⟨by kernel_rfl, by kernel_rfl⟩, ⟨by kernel_rfl, by kernel_rfl⟩, ⟨by kernel_rfl, by kernel_rfl⟩, ⟨by kernel_rfl, by kernel_rfl⟩, ⟨by kernel_rfl, by kernel_rfl⟩, ⟨by kernel_rfl, by kernel_rfl⟩, ⟨by kernel_rfl, by kernel_rfl⟩, ⟨by kernel_rfl, by kernel_rfl⟩, ⟨by kernel_rfl, by kernel_rfl⟩, ⟨by kernel_rfl, by kernel_rfl⟩, ⟨by kernel_rfl, by kernel_rfl⟩, ⟨by kernel_rfl, by kernel_rfl⟩, ⟨by kernel_rfl, by kernel_rfl⟩, ⟨by kernel_rfl, by kernel_rfl⟩, ⟨by kernel_rfl, by kernel_rfl⟩, ⟨by kernel_rfl, by kernel_rfl⟩, ⟨by kernel_rfl, by kernel_rfl⟩, ⟨by kernel_rfl, by kernel_rfl⟩, ⟨by kernel_rfl, by kernel_rfl⟩, ⟨by kernel_rfl, by kernel_rfl⟩, ⟨by kernel_rfl, by kernel_rfl⟩, ⟨by kernel_rfl, by kernel_rfl⟩, ⟨by kernel_rfl, by kernel_rfl⟩, ⟨by kernel_rfl, by kernel_rfl⟩, ⟨by kernel_rfl, by kernel_rfl⟩, ⟨by kernel_rfl, by kernel_rfl⟩, ⟨by kernel_rfl, by kernel_rfl⟩, ⟨by kernel_rfl, by kernel_rfl⟩, ⟨by kernel_rfl, by kernel_rfl⟩, ⟨by kernel_rfl, by kernel_rfl⟩, ⟨by kernel_rfl, by kernel_rfl⟩, ⟨by kernel_rfl, by kernel_rfl⟩, ⟨by kernel_rfl, by kernel_rfl⟩, ⟨by kernel_rfl, by kernel_rfl⟩, ⟨by kernel_rfl, by kernel_rfl⟩, ⟨by kernel_rfl, by kernel_rfl⟩, ⟨by kernel_rfl, by kernel_rfl⟩, ⟨by kernel_rfl, by kernel_rfl⟩, ⟨by kernel_rfl, by kernel_rfl⟩, ⟨by kernel_rfl, by kernel_rfl⟩, trivial⟩

theorem tMix : Try.prog.follows .mixedOrders = true := by kernel_rfl
section
open Go
variable {N : Nat} {e : Env} {w : World} {Q : Exit → Act → World → Prop} {K : Act → World → Prop} {C : World → Prop} {Kf : Act → Prop} {ops l : List Oper} {d : Nat} {tt : TypeId} {op : Op} {v : Value} {ps : String} {af : Array Edge} {g : Option (Nat × Bool)}
theorem WL.au (hg : gate ops e g = some true := by exact rfl) (hd : Nat.blt d N = true := by exact rfl) (h : Lt.YieldsIn Try.prog e (Same w) ⟨some d, op, tt, ps, af, g⟩ v := by first | (apply Yields.in; apply pev_yields tOk; exact rfl) | (apply yload tOk; (iterate 3 exact rfl); (first | assumption | (focus (apply Ext.cell; rotate_left; assumption; exact extA; done)))) | (apply Yields.in; apply yadd; exact rfl; exact rfl; omega) | (apply Yields.in; apply ysub; exact rfl; exact rfl; omega) | (apply Yields.in; apply ymul; exact rfl; exact rfl; omega) | (apply Yields.in; apply yquo; exact rfl; exact rfl; omega) | (apply Yields.in; apply yrem; exact rfl; exact rfl; omega) | (apply yloadAgg tOk; (iterate 3 exact rfl); (case hv => (first | assumption | (focus (apply Cells.ext; rotate_left; assumption; exact extA; done)))); exact rfl)) (k : WL Try.prog N ops.toArray l ((d, v) :: e) w Q) : WL Try.prog N ops.toArray (⟨some d, op, tt, ps, af, g⟩ :: l) e w Q := Lt.WL.step hg hd h k
theorem QL.au [Cls C w] (hg : gate ops e g = some true := by exact rfl) (hd : Nat.blt d N = true := by exact rfl) (h : Lt.YieldsIn Try.prog e C ⟨some d, op, tt, ps, af, g⟩ v := by first | (apply Yields.in; apply pev_yields tOk; exact rfl) | (apply yload tOk; (iterate 3 exact rfl); (first | assumption | (focus (apply Ext.cell; rotate_left; assumption; exact extA; done)))) | (apply Yields.in; apply yadd; exact rfl; exact rfl; omega) | (apply Yields.in; apply ysub; exact rfl; exact rfl; omega) | (apply Yields.in; apply ymul; exact rfl; exact rfl; omega) | (apply Yields.in; apply yquo; exact rfl; exact rfl; omega) | (apply Yields.in; apply yrem; exact rfl; exact rfl; omega) | (apply yloadAgg tOk; (iterate 3 exact rfl); (case hv => (first | assumption | (focus (apply Cells.ext; rotate_left; assumption; exact extA; done)))); exact rfl)) (k : QL Try.prog N C ops.toArray l ((d, v) :: e) Q) : QL Try.prog N C ops.toArray (⟨some d, op, tt, ps, af, g⟩ :: l) e Q := Lt.QL.step hg hd h k
theorem SL.au (hg : gate ops e g = some true := by exact rfl) (hd : Nat.blt d N = true := by exact rfl) (h : Lt.YieldsIn Try.prog e (Same w) ⟨some d, op, tt, ps, af, g⟩ v := by first | (apply Yields.in; apply pev_yields tOk; exact rfl) | (apply yload tOk; (iterate 3 exact rfl); (first | assumption | (focus (apply Ext.cell; rotate_left; assumption; exact extA; done)))) | (apply Yields.in; apply yadd; exact rfl; exact rfl; omega) | (apply Yields.in; apply ysub; exact rfl; exact rfl; omega) | (apply Yields.in; apply ymul; exact rfl; exact rfl; omega) | (apply Yields.in; apply yquo; exact rfl; exact rfl; omega) | (apply Yields.in; apply yrem; exact rfl; exact rfl; omega) | (apply yloadAgg tOk; (iterate 3 exact rfl); (case hv => (first | assumption | (focus (apply Cells.ext; rotate_left; assumption; exact extA; done)))); exact rfl)) (k : SL Try.prog N ops.toArray l ((d, v) :: e) w K) : SL Try.prog N ops.toArray (⟨some d, op, tt, ps, af, g⟩ :: l) e w K := Lt.SL.step hg hd h k
theorem FL.au (hg : gate ops e g = some true := by exact rfl) (hd : Nat.blt d N = true := by exact rfl) (h : Lt.YieldsIn Try.prog e C ⟨some d, op, tt, ps, af, g⟩ v := by first | (apply Yields.in; apply pev_yields tOk; exact rfl) | (apply Yields.in; apply yadd; exact rfl; exact rfl; omega) | (apply Yields.in; apply ysub; exact rfl; exact rfl; omega) | (apply Yields.in; apply ymul; exact rfl; exact rfl; omega) | (apply Yields.in; apply yquo; exact rfl; exact rfl; omega) | (apply Yields.in; apply yrem; exact rfl; exact rfl; omega)) (k : FL Try.prog N ops.toArray C l ((d, v) :: e) w Kf) : FL Try.prog N ops.toArray C (⟨some d, op, tt, ps, af, g⟩ :: l) e w Kf := Lt.FL.step hg hd h k
end
end Go.Proofs.Yteidpnpbfagaeaa
namespace Go.Proofs.Yteidpnpbfagaeaa
open Go Go.Lt Go.RowKit
set_option linter.unusedVariables false
set_option linter.unusedSimpArgs false
set_option maxRecDepth 20000

def not3 (a : Int) : Int := if a = 0 then 1 else if a = 1 then 0 else 2
def val3 (a : Int) : Int := if a = 0 ∨ a = 1 then a else 2
end Go.Proofs.Yteidpnpbfagaeaa
namespace Go.Proofs.Yteidpnpbfagaeaa
open Go Go.Lt Go.RowKit
set_option linter.unusedVariables false
set_option linter.unusedSimpArgs false
set_option maxRecDepth 20000

theorem ref_Has (aa : Option Addr) (ca : Nat) (la : List Int) (x : Int) (w : World) (Ra : Row 1 encI w aa la) : Still Try.prog 102 [.slice aa la.length ca, .int .i64 x] w (.bool (dec (x ∈ la))) := by
 have hla := Ra.len
 refine Spec.of _ Try.func102 rfl Try.ntmps102 (by kernel_rfl) rfl ?_
 repeat' (first
  | (show WL _ _ _ _ _ _ _; first | apply WL.nil | (refine WL.au (k := ?_)))
  | (show Z _ _ _ _ _; apply Z.then_normal)
  | (show W _ _ _ _ _ _; first | apply W.seq | apply W.region | apply W.block)
  | fail)
 refine W.loop1 la.length (fun k => k ≤ la.length ∧ ∀ i, i < k → la[i]? ≠ some x) (fun k => [(0, .slice aa la.length ca), (1, .int .i64 x), (5, .int .i64 k)]) ⟨by omega, fun i hi => by omega⟩ (fun k h => h.1) ⟨rfl, rfl, rfl, trivial⟩ ?_
 rintro k ⟨hk, heq⟩
 by_cases hlt : k < la.length
 ·obtain ⟨y, hy⟩ := getI la hlt
  repeat' (first
   | (apply W.condKT; exact rfl; (focus (exact dec_true (by omega); done)))
   | (show WL _ _ _ _ _ _ _; first | apply WL.nil | (refine WL.au (k := ?_)) | (apply WL.index tOk; (iterate 8 exact rfl); assumption; (exact extA); exact rfl; omega; assumption; intro b off h; have hcc := h; first | (obtain ⟨h1, h2, h3, h4, h5, h6, _⟩ := h) | (obtain ⟨h1, h2, h3, _⟩ := h) | (obtain ⟨h1, h2, _⟩ := h) | (obtain ⟨h1, _⟩ := h)))
   | (show Z _ _ _ _ _; first | apply Z.then_normal | apply Z.block_normal | apply Z.then_ret | apply Z.block_ret)
   | (show W _ _ _ _ _ _; first | apply W.seq | apply W.region | apply W.block | apply W.skip | apply W.ret | (apply W.condD; exact rfl; all_goals intro _))
   | fail)
  ·refine Z.body1 Try.results102 rfl fun m => ⟨congrArg Value.bool (dec_true ?_).symm, m, rfl⟩
   have h : y = x := by assumption
   rw [← h]; exact List.mem_of_getElem? hy
  ·refine Z.again1 ⟨by omega, fun i hi => ?_⟩ ⟨rfl, rfl, rfl, trivial⟩
   by_cases hik : i < k
   ·exact heq i hik
   ·obtain rfl : i = k := by omega
    rw [hy]; intro h; cases h; omega
 ·repeat' (first
   | (apply W.condKF; exact rfl; (focus (exact dec_false (by omega); done)))
   | (show WL _ _ _ _ _ _ _; first | apply WL.nil | (refine WL.au (k := ?_)))
   | (show Z _ _ _ _ _; first | apply Z.then_normal | apply Z.then_exit | apply Z.block_exit)
   | (show W _ _ _ _ _ _; first | apply W.seq | apply W.region | apply W.ret | apply W.exit)
   | fail)
  refine Z.body1 Try.results102 rfl fun m => ⟨congrArg Value.bool (dec_false ?_).symm, m, rfl⟩
  intro hx
  obtain ⟨i, hi⟩ := List.mem_iff_getElem?.1 hx
  exact heq i (by have := lt_of_get hi; omega) hi

def badNode (i : Nat) (x : Int × Int) : Prop := 0 ≤ x.1 ∧ (2 * (i : Int) + 1 < x.1 ∨ x.2 < 0 ∨ 2 * (i : Int) + 1 < x.2)
def GoodNet (n : List (Int × Int)) : Prop := ∀ i x, n[i]? = some x → ¬ badNode i x
theorem GoodNet.gate {n : List (Int × Int)} (h : GoodNet n) {k : Nat} {x : Int × Int} (hx : n[k]? = some x) (h0 : 0 ≤ x.1) : x.1 ≤ 2 * k + 1 ∧ 0 ≤ x.2 ∧ x.2 ≤ 2 * k + 1 := by
 have := h k x hx; unfold badNode at this; omega
open Classical in
noncomputable def check (n : List (Int × Int)) : Int := if 1048576 < n.length then 4 else if GoodNet n then 0 else 5

theorem ref07_Check (a : Option Addr) (cap : Nat) (n : List (Int × Int)) (w : World) (R : Row 2 encN w a n) : Still Try.prog 37 [.slice a n.length cap] w (.int .i64 (check n)) := by
  have hlen := R.len
  refine Spec.of _ Try.func37 rfl Try.ntmps37 (by kernel_rfl) rfl ?_
  repeat' (first
    | (show WL _ _ _ _ _ _ _; first | apply WL.nil | (refine WL.au (k := ?_)))
    | (show Z _ _ _ _ _; first | apply Z.then_normal | apply Z.then_ret)
    | (show W _ _ _ _ _ _; first | apply W.seq | apply W.region | apply W.block | apply W.skip | apply W.ret | (apply W.condD; exact rfl; all_goals intro _))
    | fail)
  · exact Z.body1 Try.results37 rfl fun m => ⟨by rw [check, if_pos (by omega)], m, rfl⟩
  · refine W.loop1 n.length (fun k => k ≤ n.length ∧ ∀ i x, i < k → n[i]? = some x → ¬ badNode i x) (fun k => [(0, .slice a n.length cap), (3, .int .i64 k)]) ⟨by omega, by intro i x hi; omega⟩ (fun k h => h.1) ⟨rfl, rfl, trivial⟩ ?_
    rintro k ⟨hk, hgood⟩
    by_cases hlt : k < n.length
    · obtain ⟨x, hx⟩ := getI n hlt
      have hnext : ¬ badNode k x → ∀ i y, i < k + 1 → n[i]? = some y → ¬ badNode i y := fun hb i y hi hy => by
          by_cases h : i < k
          · exact hgood i y h hy
          · obtain rfl : i = k := by omega
            rw [hx] at hy; cases hy; exact hb
      repeat' (first
        | (apply W.condKT; exact rfl; (focus (exact dec_true (by omega); done)))
        | (show WL _ _ _ _ _ _ _; first | apply WL.nil | (refine WL.au (k := ?_)) | (apply WL.index tOk; (iterate 8 exact rfl); assumption; (exact extA); exact rfl; omega; assumption; intro b off h; have hcc := h; first | (obtain ⟨h1, h2, h3, h4, h5, h6, _⟩ := h) | (obtain ⟨h1, h2, h3, _⟩ := h) | (obtain ⟨h1, h2, _⟩ := h) | (obtain ⟨h1, _⟩ := h)) | (apply WL.guardF; exact rfl; exact rfl) | (apply WL.gD; exact rfl; exact rfl; all_goals intro _))
        | (show Z _ _ _ _ _; first | apply Z.then_normal | apply Z.block_normal | apply Z.then_ret | apply Z.block_ret)
        | (show W _ _ _ _ _ _; first | apply W.seq | apply W.region | apply W.block | apply W.skip | apply W.ret | (apply W.condT; exact rfl) | (apply W.condF; exact rfl) | (apply W.condD; exact rfl; all_goals intro _))
        | fail)
      all_goals first
        | (exfalso; omega)
        | exact Z.again1 ⟨by omega, hnext (by unfold badNode; omega)⟩ ⟨rfl, rfl, trivial⟩
        | (refine Z.body1 Try.results37 rfl fun m => ⟨?_, m, rfl⟩
           rw [check, if_neg (by omega), if_neg (fun hg => hg k x hx (by unfold badNode; omega))])
    · repeat' (first
        | (apply W.condKF; exact rfl; (focus (exact dec_false (by omega); done)))
        | (show WL _ _ _ _ _ _ _; first | apply WL.nil | (refine WL.au (k := ?_)))
        | (show Z _ _ _ _ _; first | apply Z.then_normal | apply Z.then_exit | apply Z.block_exit)
        | (show W _ _ _ _ _ _; first | apply W.seq | apply W.region | apply W.ret | apply W.exit)
        | fail)
      (refine Z.body1 Try.results37 rfl fun m => ⟨?_, m, rfl⟩
       rw [check, if_neg (by omega), if_pos (show GoodNet n from fun i x hx => hgood i x (by have := (List.getElem?_eq_some_iff.1 hx).1; omega) hx)])

theorem check_zero {n : List (Int × Int)} (h : n.length ≤ 1048576) : check n = 0 ↔ GoodNet n := by
 unfold check; rw [if_neg (by omega)]; split <;> simp_all

def ofL (v : List Bool) (l : Int) : Bool := (v.getD (l / 2).toNat false) != decide (l % 2 = 1)
def vstep (ins : List Bool) (s : List Bool × Nat) (x : Int × Int) : List Bool × Nat := if x.1 < 0 then (s.1 ++ [ins.getD s.2 false], s.2 + 1) else (s.1 ++ [ofL s.1 x.1 && ofL s.1 x.2], s.2)
def vto (n : List (Int × Int)) (ins : List Bool) (k : Nat) : List Bool × Nat := (n.take k).foldl (vstep ins) ([false], 0)
def values (n : List (Int × Int)) (ins : List Bool) : List Bool := (vto n ins n.length).1
theorem vto_succ {n : List (Int × Int)} {k : Nat} {x : Int × Int} (ins : List Bool) (h : n[k]? = some x) : vto n ins (k + 1) = vstep ins (vto n ins k) x := by
 unfold vto; rw [take_succ' h, List.foldl_append]; rfl
theorem vto_len (n : List (Int × Int)) (ins : List Bool) : ∀ k, k ≤ n.length → (vto n ins k).1.length = k + 1 ∧ (vto n ins k).2 ≤ k
 | 0, _ => by simp [vto]
 | k + 1, h => by
  obtain ⟨x, hx⟩ := getI n (show k < n.length by omega)
  have ih := vto_len n ins k (by omega)
  rw [vto_succ ins hx]; unfold vstep
  split <;> simp <;> omega

theorem ref07_Of (a : Option Addr) (cap : Nat) (v : List Bool) (l : Int) (w : World) (R : Row 1 encB w a v) (h : 0 ≤ l ∧ l / 2 < v.length ∧ l ≤ 9223372036854775807) : Still Try.prog 40 [.slice a v.length cap, .int .i64 l] w (.bool (ofL v l)) := by
 obtain ⟨z, hz⟩ := getI v (show (l / 2).toNat < v.length by omega)
 refine Spec.of _ Try.func40 rfl Try.ntmps40 (by kernel_rfl) rfl ?_
 repeat' (first
  | (show WL _ _ _ _ _ _ _; first | apply WL.nil | (refine WL.au (k := ?_)) | (apply WL.index tOk; (iterate 8 exact rfl); assumption; (exact extA); exact rfl; omega; assumption; intro b off h; have hcc := h; first | (obtain ⟨h1, h2, h3, h4, h5, h6, _⟩ := h) | (obtain ⟨h1, h2, h3, _⟩ := h) | (obtain ⟨h1, h2, _⟩ := h) | (obtain ⟨h1, _⟩ := h)))
  | (show Z _ _ _ _ _; apply Z.then_normal)
  | (show W _ _ _ _ _ _; first | apply W.seq | apply W.region | apply W.ret)
  | fail)
 refine Z.body1 Try.results40 rfl fun m => ⟨congrArg Value.bool ?_, m, rfl⟩
 rw [dec_ne_dec, ofL, getD_of hz]

theorem ref07_Values (a b : Option Addr) (cap cb : Nat) (n : List (Int × Int)) (ins : List Bool) (w : World) (R : Row 2 encN w a n) (Rb : Row 1 encB w b ins) (hg : GoodNet n) (hn : n.length ≤ 1048576) :
    Lt.Spec Try.prog 22 [.slice a n.length cap, .slice b ins.length cb] w (IsFresh 1 encB 4 w (values n ins)) := by
  have hlen := Rb.len
  refine Spec.of _ Try.func22 rfl Try.ntmps22 (by kernel_rfl) rfl ?_
  repeat' (first
    | (apply WL.lit tOk; (iterate 6 exact rfl); (first | exact rfl | kernel_rfl | (simp [Instr.fill, catCells]; done)); exact rfl; intro gb w' hb hge hc hx; have hO := Own.of_block ([false]) encB_ok hb hge rfl)
    | (show WL _ _ _ _ _ _ _; first | apply WL.nil | (refine WL.au (k := ?_)))
    | (show Z _ _ _ _ _; apply Z.then_normal)
    | (show W _ _ _ _ _ _; first | apply W.seq | apply W.region | apply W.block)
    | fail)
  refine W.loopO n.length (fun k c cp w' => k ≤ n.length ∧ Ext w w' ∧ Own 1 encB 4 w.heap.size w' c cp (vto n ins k).1)
    (fun k c cp => [(0, .slice a n.length cap), (1, .slice b ins.length cb), (5, .slice c (vto n ins k).1.length cp), (6, .int .i64 ((vto n ins k).2 : Nat)), (7, .int .i64 k)]) (some ⟨gb, 0, none⟩) 1 ⟨by omega, hx, hO⟩ (fun k c cp w' h => h.1) ⟨rfl, rfl, rfl, rfl, rfl, trivial⟩ ?_
  rintro k c cp w' ⟨hk, hx', hO'⟩
  have hvl := vto_len n ins k hk
  by_cases hlt : k < n.length
  · obtain ⟨x, hxn⟩ := getI n hlt
    have hs := vto_succ ins hxn
    by_cases hin : x.1 < 0
    · have e2 : (vto n ins (k + 1)).2 = (vto n ins k).2 + 1 := by rw [hs, vstep, if_pos hin]
      by_cases hki : (vto n ins k).2 < ins.length
      · obtain ⟨z, hz⟩ := getI ins hki
        have e1 : (vto n ins (k + 1)).1 = (vto n ins k).1 ++ [z] := by rw [hs, vstep, if_pos hin, getD_of hz]
        repeat' (first
          | (apply WL.gT; exact rfl; exact rfl; (focus (first | exact dec_true (by omega) | exact dec_false (by omega); done)))
          | (apply W.condKT; exact rfl; (focus (first | exact dec_true (by omega) | exact dec_false (by omega); done)))
          | (apply WL.lit tOk; (iterate 6 exact rfl); (first | exact rfl | kernel_rfl | (simp [Instr.fill, catCells]; done)); exact rfl; intro gb w' hb hge hc hx)
          | (apply WL.append1 tOk encB_ok; (iterate 10 exact rfl); assumption; (exact extA); (first | exact rfl | (focus (simp only [List.length_set]; done)) | (focus (simp; done)) | (focus (simp [*]; done)) | omega | (focus (simp only [List.length_set]; omega))); assumption; (first | exact rfl | exact (rfl : encB (_, _) = _)); exact rfl; (exact extA); (first | omega | (simp; omega) | (simp at *; omega)); intro a' cap' w' hO hX' hU hF)
          | (show WL _ _ _ _ _ _ _; first | apply WL.nil | (refine WL.au (k := ?_)) | (apply WL.index tOk; (iterate 8 exact rfl); assumption; (exact extA); exact rfl; omega; assumption; intro b off h; have hcc := h; first | (obtain ⟨h1, h2, h3, h4, h5, h6, _⟩ := h) | (obtain ⟨h1, h2, h3, _⟩ := h) | (obtain ⟨h1, h2, _⟩ := h) | (obtain ⟨h1, _⟩ := h)))
          | (show Z _ _ _ _ _; first | apply Z.then_normal | apply Z.block_normal)
          | (show W _ _ _ _ _ _; first | apply W.seq | apply W.region | apply W.block | apply W.skip)
          | fail)
        exact Z.againO a' cap' ⟨by omega, hX', by rw [e1]; exact hO⟩ (by repeat' first | exact trivial | (refine And.intro ?_ ?_) | exact rfl | (rw [e1]; exact rfl) | (rw [e2]; exact rfl))
      · have e1 : (vto n ins (k + 1)).1 = (vto n ins k).1 ++ [false] := by
          rw [hs, vstep, if_pos hin, List.getD, List.getElem?_eq_none (by omega)]; rfl
        repeat' (first
          | (apply WL.gF; exact rfl; exact rfl; (focus (first | exact dec_true (by omega) | exact dec_false (by omega); done)))
          | (apply W.condKT; exact rfl; (focus (first | exact dec_true (by omega) | exact dec_false (by omega); done)))
          | (apply WL.lit tOk; (iterate 6 exact rfl); (first | exact rfl | kernel_rfl | (simp [Instr.fill, catCells]; done)); exact rfl; intro gb w' hb hge hc hx)
          | (apply WL.append1 tOk encB_ok; (iterate 10 exact rfl); assumption; (exact extA); (first | exact rfl | (focus (simp only [List.length_set]; done)) | (focus (simp; done)) | (focus (simp [*]; done)) | omega | (focus (simp only [List.length_set]; omega))); assumption; (first | exact rfl | exact (rfl : encB (_, _) = _)); exact rfl; (exact extA); (first | omega | (simp; omega) | (simp at *; omega)); intro a' cap' w' hO hX' hU hF)
          | (show WL _ _ _ _ _ _ _; first | apply WL.nil | (refine WL.au (k := ?_)) | (apply WL.index tOk; (iterate 8 exact rfl); assumption; (exact extA); exact rfl; omega; assumption; intro b off h; have hcc := h; first | (obtain ⟨h1, h2, h3, h4, h5, h6, _⟩ := h) | (obtain ⟨h1, h2, h3, _⟩ := h) | (obtain ⟨h1, h2, _⟩ := h) | (obtain ⟨h1, _⟩ := h)) | (apply WL.guardF; exact rfl; exact rfl))
          | (show Z _ _ _ _ _; first | apply Z.then_normal | apply Z.block_normal)
          | (show W _ _ _ _ _ _; first | apply W.seq | apply W.region | apply W.block | apply W.skip)
          | fail)
        exact Z.againO a' cap' ⟨by omega, hX', by rw [e1]; exact hO⟩ (by repeat' first | exact trivial | (refine And.intro ?_ ?_) | exact rfl | (rw [e1]; exact rfl) | (rw [e2]; exact rfl))
    · have hgt := hg.gate hxn (by omega)
      have e2 : (vto n ins (k + 1)).2 = (vto n ins k).2 := by rw [hs, vstep, if_neg hin]
      have e1 : (vto n ins (k + 1)).1 = (vto n ins k).1 ++ [ofL (vto n ins k).1 x.1 && ofL (vto n ins k).1 x.2] := by rw [hs, vstep, if_neg hin]
      repeat' (first
        | (apply W.condKT; exact rfl; (focus (first | exact dec_true (by omega) | exact dec_false (by omega); done)))
        | (apply W.condKF; exact rfl; (focus (first | exact dec_true (by omega) | exact dec_false (by omega); done)))
        | (apply WL.lit tOk; (iterate 6 exact rfl); (first | exact rfl | kernel_rfl | (simp [Instr.fill, catCells]; done)); exact rfl; intro gb w' hb hge hc hx)
        | (apply WL.append1 tOk encB_ok; (iterate 10 exact rfl); assumption; (exact extA); (first | exact rfl | (focus (simp only [List.length_set]; done)) | (focus (simp; done)) | (focus (simp [*]; done)) | omega | (focus (simp only [List.length_set]; omega))); assumption; (first | exact rfl | exact (rfl : encB (_, _) = _)); exact rfl; (exact extA); (first | omega | (simp; omega) | (simp at *; omega)); intro a' cap' w' hO hX' hU hF)
        | ((show WL _ _ _ (⟨_, .call ⟨.value (.func 40), _, _⟩, _, _, _, _⟩ :: _) _ _ _); apply WL.callS; (iterate 4 exact rfl); exact ref07_Of _ _ _ _ _ (Own.row encB_ok (by assumption)) ⟨by omega, by omega, by omega⟩)
        | (show WL _ _ _ _ _ _ _; first | apply WL.nil | (refine WL.au (k := ?_)) | (apply WL.index tOk; (iterate 8 exact rfl); assumption; (exact extA); exact rfl; omega; assumption; intro b off h; have hcc := h; first | (obtain ⟨h1, h2, h3, h4, h5, h6, _⟩ := h) | (obtain ⟨h1, h2, h3, _⟩ := h) | (obtain ⟨h1, h2, _⟩ := h) | (obtain ⟨h1, _⟩ := h)) | (apply WL.guardF; exact rfl; exact rfl) | (apply WL.gB; exact rfl; exact rfl; all_goals (intro h_9; fail_if_success (cases h_9; done))))
        | (show Z _ _ _ _ _; first | apply Z.then_normal | apply Z.block_normal)
        | (show W _ _ _ _ _ _; first | apply W.seq | apply W.region | apply W.block | apply W.skip)
        | fail)
      all_goals
        first
          | (have hb1 : ofL (vto n ins k).1 x.1 = true := by assumption
             rw [hb1, Bool.true_and] at e1)
          | (have hb1 : ofL (vto n ins k).1 x.1 = false := by assumption
             rw [hb1, Bool.false_and] at e1)
        exact Z.againO a' cap' ⟨by omega, hX', by rw [e1]; exact hO⟩ (by repeat' first | exact trivial | (refine And.intro ?_ ?_) | exact rfl | (rw [e1]; exact rfl) | (rw [e2]; exact rfl))
  · repeat' (first
      | (apply W.condKF; exact rfl; (focus (exact dec_false (by omega); done)))
      | (show WL _ _ _ _ _ _ _; first | apply WL.nil | (refine WL.au (k := ?_)))
      | (show Z _ _ _ _ _; first | apply Z.then_normal | apply Z.then_exit | apply Z.block_exit)
      | (show W _ _ _ _ _ _; first | apply W.seq | apply W.region | apply W.ret | apply W.exit)
      | fail)
    obtain rfl : k = n.length := by omega
    exact Z.body1 Try.results22 rfl fun m => ⟨hx'.at m, c, cp, rfl, hO'⟩
end Go.Proofs.Yteidpnpbfagaeaa
namespace Go.Lt
open Go.ChangeShapes Go.WideShapes Go.ChangeAt Go.RowKit Go.Deep
set_option linter.unusedVariables false

def Reads (P : Program) (e : TypeId) {α : Type} (enc : α → List Value) (ok : World → α → Prop) : Prop :=
 ∀ {H : Type} (en : TypeId × Value → H) (w : World) (base : Nat) (spare : Nat → Bool) (held : Bool) (fuel : Nat) (cs : List Value) (x : DataW H × List MemPlace), DataW.trod en P w base spare held fuel e cs = some x → ∃ a : α, cs = enc a ∧ ok w a

theorem reads_int {P : Program} {e : TypeId} {k : IntKind} (ht : P.underlying e = some (.int k)) : Reads P e (fun n : Int => [.int k n]) (fun _ n => (Lit.int k n).wf = true) := by
 intro H en w base spare held fuel cs x h
 obtain ⟨n, h1, _, h2⟩ := DataW.trod_int ht h
 exact ⟨n, h1, h2⟩
theorem reads_bool {P : Program} {e : TypeId} (ht : P.underlying e = some .bool) : Reads P e (fun n : Bool => [.bool n]) (fun _ _ => True) := by
 intro H en w base spare held fuel cs x h
 obtain ⟨n, h1, _⟩ := DataW.trod_bool ht h
 exact ⟨n, h1, trivial⟩
theorem reads_string {P : Program} {e : TypeId} (ht : P.underlying e = some .string) : Reads P e (fun n : ByteArray => [.string n]) (fun _ n => True) := by
 intro H en w base spare held fuel cs x h
 obtain ⟨n, h1, _⟩ := DataW.trod_string ht h
 exact ⟨n, h1, trivial⟩
theorem reads_triple' {P : Program} {e : TypeId} {f0 f1 f2 : Field} {α β γ : Type} {ea : α → List Value} {eb : β → List Value} {ec : γ → List Value} {oka : World → α → Prop} {okb : World → β → Prop} {okc : World → γ → Prop} {s0 s1 s2 : Nat}
  (ht : P.underlying e = some (.struct #[f0, f1, f2])) (ra : Reads P f0.type ea oka) (rb : Reads P f1.type eb okb) (rc : Reads P f2.type ec okc)
  (c : P.cellsOf e = s0 + s1 + s2) (o0 : f0.offset = 0) (o1 : f1.offset = s0) (o2 : f2.offset = s0 + s1) (c0 : P.cellsOf f0.type = s0) (c1 : P.cellsOf f1.type = s1) (c2 : P.cellsOf f2.type = s2) :
  Reads P e (fun x : α × β × γ => ea x.1 ++ (eb x.2.1 ++ ec x.2.2)) (fun w x => oka w x.1 ∧ okb w x.2.1 ∧ okc w x.2.2) := by
 intro H en w base spare held fuel cs x h
 obtain ⟨xs, n, _, _, hl, hxl, hf⟩ := DataW.trod_struct ht h
 rw [c] at hl
 match xs, hxl with
 | [y0, y1, y2], _ =>
  have h0 := hf 0 f0 rfl
  have h1 := hf 1 f1 rfl
  have h2 := hf 2 f2 rfl
  rw [o0, c0] at h0
  rw [o1, c1] at h1
  rw [o2, c2] at h2
  simp only [List.drop_zero, List.getElem?_cons_zero] at h0
  simp only [List.getElem?_cons_succ, List.getElem?_cons_zero] at h1 h2
  obtain ⟨a, ha, oa⟩ := ra en w base spare held n _ _ h0
  obtain ⟨b, hb, ob⟩ := rb en w base spare held n _ _ h1
  obtain ⟨d, hd, od⟩ := rc en w base spare held n _ _ h2
  refine ⟨(a, b, d), ?_, oa, ob, od⟩
  show cs = ea a ++ (eb b ++ ec d)
  rw [← ha, ← hb, ← hd, List.take_of_length_le (l := cs.drop (s0 + s1)) (by rw [List.length_drop]; omega), ← List.drop_drop, List.take_append_drop, List.take_append_drop]
theorem reads_row {P : Program} {α : Type} {s : Nat} {enc : α → List Value} {ok : World → α → Prop} {t e : TypeId} (hR : Reads P e enc ok) (hc : P.cellsOf e = s) (ht : P.underlying t = some (.slice e)) (hs : ∀ x, (enc x).length = s) (hpos : 0 < s) :
  Reads P t (fun r : Option Addr × Nat × List α => [.slice r.1 r.2.2.length r.2.1]) (fun w r => Row s enc w r.1 r.2.2 ∧ r.2.2.length ≤ r.2.1 ∧ r.2.1 ≤ maxLen ∧ (r.1 = none → r.2.1 = 0) ∧ ∀ x ∈ r.2.2, ok w x) := by
 intro H en w base spare held fuel cs xx hf
 rcases open_slice ht hf with ⟨hcs, _⟩ | ⟨a, len0, cap0, m, n, D, Pl, hcs, _, hl, hm, hmm, _, hx⟩
 ·exact ⟨(none, 0, []), hcs, Row.nil _ _ _ _, Nat.le_refl _, Nat.zero_le _, fun _ => rfl, fun _ h => by cases h⟩
 ·have hlm : len0 ≤ m := by rw [hmm]; split <;> omega
  have each : ∀ i, i < len0 → ∃ z : α, (∀ j u, (enc z)[j]? = some u → w.cell? ((a.add (i * s)).add j) = some u) ∧ ok w z := by
   intro i hi
   obtain ⟨cs', h1, h2⟩ := hx i (by omega)
   rw [hc] at h1
   obtain ⟨_, hlen, hcell⟩ := World.cells?_some h1
   obtain ⟨z, rfl, hz⟩ := hR en w base spare held n cs' _ h2
   exact ⟨z, fun j u hj => by rw [hcell j (by have := (List.getElem?_eq_some_iff.1 hj).1; omega), hj], hz⟩
  classical
  let Z : (i : Nat) → i < len0 → α := fun i hi => Classical.choose (each i hi)
  have hZ : ∀ i (hi : i < len0), (∀ j u, (enc (Z i hi))[j]? = some u → w.cell? ((a.add (i * s)).add j) = some u) ∧ ok w (Z i hi) := fun i hi => Classical.choose_spec (each i hi)
  let l : List α := List.ofFn (fun i : Fin len0 => Z i.1 i.2)
  have hll : l.length = len0 := by simp [l]
  refine ⟨(some a, cap0, l), by rw [hcs]; show _ = [Value.slice (some a) l.length cap0]; rw [hll], ?_, by show l.length ≤ cap0; omega, hm, fun h => (by cases h), ?_⟩
  ·refine ⟨by simp only [maxLen] at hm; show l.length ≤ _; omega, fun i x hi => ?_⟩
   have hi : l[i]? = some x := hi
   have hlt : i < len0 := by have := (List.getElem?_eq_some_iff.1 hi).1; omega
   have hxz : x = Z i hlt := by
    have := (List.getElem?_eq_some_iff.1 hi).2
    simpa [l] using this.symm
   subst hxz
   obtain ⟨h1, _⟩ := hZ i hlt
   have hsp : a.spot = none := by
    have hlen := hs (Z i hlt)
    have h0 : 0 < (enc (Z i hlt)).length := by omega
    by_cases hi0 : i * s = 0
    ·have := h1 0 (enc (Z i hlt))[0] (by simp [h0])
     simp only [hi0, Addr.add, if_true] at this
     exact World.cell?_spot this
    ·have hz0 := hZ 0 (by omega)
     have hlen0 := hs (Z 0 (by omega))
     have h00 : 0 < (enc (Z 0 (by omega))).length := by omega
     have := hz0.1 0 (enc (Z 0 (by omega)))[0] (by simp [h00])
     simp only [Nat.zero_mul, Addr.add, if_true] at this
     exact World.cell?_spot this
   obtain ⟨b, off, spot⟩ := a
   simp only at hsp
   subst hsp
   refine ⟨b, off, rfl, cells_of fun j u hj => ?_⟩
   have := h1 j u hj
   rwa [Addr_add_none, Addr_add_none] at this
  ·intro x hx'
   obtain ⟨i, hi⟩ := List.mem_iff_getElem.1 (show x ∈ l from hx')
   obtain ⟨hi1, hi2⟩ := hi
   have : x = Z i (by omega) := by rw [← hi2]; simp [l]
   rw [this]
   exact (hZ i (by omega)).2

theorem row_of {P : Program} {α : Type} {s : Nat} {enc : α → List Value} {ok : World → α → Prop} {t e : TypeId} (hR : Reads P e enc ok) (hc : P.cellsOf e = s) (ht : P.underlying t = some (.slice e)) (hs : ∀ x, (enc x).length = s) (hpos : 0 < s)
  {H : Type} {en : TypeId × Value → H} {w : World} {base : Nat} {spare : Nat → Bool} {held : Bool} {r : Reach} {b0 : Nat} {v : Value} {d : DataW H} {ps : List MemPlace} (hval : Value.okWide P w r b0 t v) (hd : DataW.Trod en P w base spare held t v d ps) :
  ∃ (a : Option Addr) (l : List α) (cap : Nat), v = .slice a l.length cap ∧ l.length ≤ cap ∧ cap ≤ maxLen ∧ (a = none → cap = 0) ∧ Row s enc w a l ∧ ∀ x ∈ l, ok w x := by
 obtain ⟨a0, len0, cap0, rfl⟩ := okWide_slice ht hval
 obtain ⟨fuel, hf⟩ := hd
 obtain ⟨⟨a, cap, l⟩, h1, h2, h3, h4, h5, h6⟩ := reads_row hR hc ht hs hpos en w base spare held fuel _ _ hf
 simp only [Value.cells, List.cons.injEq, Value.slice.injEq, and_true] at h1
 obtain ⟨rfl, rfl, rfl⟩ := h1
 exact ⟨a0, l, cap0, rfl, h3, h4, h5, h2, h6⟩

abbrev RowV (α : Type) := Option Addr × Nat × List α
abbrev encRow {α : Type} : RowV α → List Value := fun r => [.slice r.1 r.2.2.length r.2.1]
theorem encRow_ok {α : Type} : Enc 1 (encRow (α := α)) := ⟨fun _ => rfl, fun x u hu => by simp at hu; subst hu; rfl, by decide⟩

theorem Spec.law {P : Program} {f : FuncId} {args : List Value} {W : World} (h : Pure P f args W (.bool true)) : Calls P f args.toArray W fun e w' => e = .returned (.bool true) ∧ Below W.heap.size W w' :=
 (h.go W.drawn).mono fun _ _ ⟨v, hx, hv, hE⟩ => ⟨by rw [hx, hv], hE⟩
end Go.Lt
namespace Go.Lt
open Go.RowKit
set_option linter.unusedVariables false

structure OwnRR {α : Type} (s : Nat) (enc : α → List Value) (el elO B : Nat) (w : World) (a : Option Addr) (cap : Nat) (rs : List (RowV α)) : Prop where
 outer : Own 1 encRow elO B w a cap rs
 inner : ∀ (i : Nat) (r : RowV α), rs[i]? = some r → Own s enc el B w r.1 r.2.1 r.2.2
 apartO : ∀ (i : Nat) (r : RowV α), rs[i]? = some r → blk r.1 = none ∨ blk r.1 ≠ blk a
 apart : ∀ (i j : Nat) (r q : RowV α), rs[i]? = some r → rs[j]? = some q → i ≠ j → blk r.1 = none ∨ blk r.1 ≠ blk q.1

section
variable {α : Type} {s : Nat} {enc : α → List Value} {el elO B : Nat} {w w1 w2 : World} {a : Option Addr} {cap : Nat} {rs : List (RowV α)}
theorem OwnRR.ext (h : OwnRR s enc el elO B w a cap rs) (hx : Ext w w1) : OwnRR s enc el elO B w1 a cap rs :=
 ⟨h.outer.ext hx, fun i r hr => (h.inner i r hr).ext hx, h.apartO, h.apart⟩
theorem OwnRR.start {m : Nat} (h : Own 1 encRow elO B w a cap (List.replicate m ((none, 0, []) : RowV α))) : OwnRR s enc el elO B w a cap (List.replicate m (none, 0, [])) := by
 have hr : ∀ (i : Nat) (r : RowV α), (List.replicate m ((none, 0, []) : RowV α))[i]? = some r → r = (none, 0, []) := fun i r hr => by
  rw [List.getElem?_replicate] at hr
  split at hr
  ·exact (Option.some.inj hr).symm
  ·cases hr
 refine ⟨h, fun i r h => ?_, fun i r h => ?_, fun i j r q h _ _ => ?_⟩
 ·rw [hr i r h]; exact Own.nil
 ·rw [hr i r h]; exact .inl rfl
 ·rw [hr i r h]; exact .inl rfl
theorem OwnRR.kept {B' : Nat} {c : Option Addr} (h : OwnRR s enc el elO B w a cap rs) (hU : Upd B' c w w1) (hO : blk a = none ∨ blk a ≠ blk c) (hI : ∀ (i : Nat) (r : RowV α), rs[i]? = some r → blk r.1 = none ∨ blk r.1 ≠ blk c) : OwnRR s enc el elO B w1 a cap rs :=
 ⟨hU.own h.outer hO, fun i r hr => hU.own (h.inner i r hr) (hI i r hr), h.apartO, h.apart⟩
theorem OwnRR.step {i : Nat} {r : RowV α} {a' : Option Addr} {cap' : Nat} {l' : List α} (h : OwnRR s enc el elO B w a cap rs) (hr : rs[i]? = some r) (hU : Upd B r.1 w w1) (hF : blk a' = blk r.1 ∨ ∃ k, blk a' = some k ∧ w.heap.size ≤ k)
  (hO1 : Own s enc el B w1 a' cap' l') (hU2 : Upd B a w1 w2) (hO2 : Own 1 encRow elO B w2 a cap (rs.set i (a', cap', l'))) : OwnRR s enc el elO B w2 a cap (rs.set i (a', cap', l')) := by
 have hi := lt_of_get hr
 have hset : ∀ (j : Nat) (q : RowV α), (rs.set i (a', cap', l'))[j]? = some q → (j = i ∧ q = (a', cap', l')) ∨ (j ≠ i ∧ rs[j]? = some q) := fun j q hq => by
  rw [List.getElem?_set] at hq
  by_cases hj : i = j
  ·subst hj
   rw [if_pos rfl, if_pos hi] at hq
   exact .inl ⟨rfl, (Option.some.inj hq).symm⟩
  ·rw [if_neg hj] at hq
   exact .inr ⟨fun h => hj h.symm, hq⟩
 have hnewO : blk a' = none ∨ blk a' ≠ blk a := by
  rcases hF with hF | ⟨k, hk, hle⟩
  ·rw [hF]; exact h.apartO i r hr
  ·refine .inr fun he => ?_
   have := (h.outer.blk_lt k (he.symm.trans hk)).2
   omega
 have hnew : ∀ (j : Nat) (q : RowV α), rs[j]? = some q → j ≠ i → (blk q.1 = none ∨ blk q.1 ≠ blk a') := fun j q hq hj => by
  rcases hF with hF | ⟨k, hk, hle⟩
  ·rw [hF]; exact h.apart j i q r hq hr hj
  ·cases hb : blk q.1 with
   | none => exact .inl rfl
   | some b =>
    refine .inr fun he => ?_
    rw [hk] at he
    have h1 := ((h.inner j q hq).blk_lt b hb).2
    have h2 := Option.some.inj he
    omega
 refine ⟨hO2, fun j q hq => ?_, fun j q hq => ?_, fun j1 j2 q1 q2 h1 h2 hne => ?_⟩
 ·rcases hset j q hq with ⟨rfl, rfl⟩ | ⟨hj, hq⟩
  ·exact hU2.own hO1 hnewO
  ·exact hU2.own (hU.own (h.inner j q hq) (h.apart j i q r hq hr hj)) (h.apartO j q hq)
 ·rcases hset j q hq with ⟨rfl, rfl⟩ | ⟨hj, hq⟩
  ·exact hnewO
  ·exact h.apartO j q hq
 ·rcases hset j1 q1 h1 with ⟨rfl, rfl⟩ | ⟨hj1, hq1⟩
  ·rcases hset j2 q2 h2 with ⟨rfl, rfl⟩ | ⟨hj2, hq2⟩
   ·exact absurd rfl hne
   ·show blk a' = none ∨ blk a' ≠ blk q2.1
    cases hb : blk a' with
    | none => exact .inl rfl
    | some b =>
     refine .inr fun he => ?_
     rcases hnew j2 q2 hq2 hj2 with h3 | h3
     ·rw [h3] at he; cases he
     ·exact h3 (by rw [hb]; exact he.symm)
  ·rcases hset j2 q2 h2 with ⟨rfl, rfl⟩ | ⟨hj2, hq2⟩
   ·exact hnew j1 q1 hq1 hj1
   ·exact h.apart j1 j2 q1 q2 hq1 hq2 hne
end

def IsFreshRR {α : Type} (s : Nat) (enc : α → List Value) (el elO : TypeId) (w : World) (L : List (List α)) (v : Value) (w' : World) : Prop :=
 Ext w w' ∧ ∃ a cap rs, v = .slice a rs.length cap ∧ OwnRR s enc el elO w.heap.size w' a cap rs ∧ rs.map (fun r => r.2.2) = L
end Go.Lt
