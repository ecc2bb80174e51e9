/- Rules for memory: rows that are read, rows of one's own, new blocks, stores, appends. Generic over the program. No conditions. -/
import Derived.Test.YtfkdlepemiepdaaLtStep
import Derived.StillTail
namespace Go.Lt
open Go.RowKit
set_option linter.unusedVariables false
set_option linter.unusedSimpArgs false

/-! ### Classes of worlds -/
class Cls (C : World → Prop) (w : outParam World) : Prop where
  keeps : ∀ w', C w' → Ext w w'
instance (w : World) : Cls (Same w) w := ⟨fun _ ⟨m, h⟩ => by subst h; exact (Ext.refl w).at m⟩
instance (w : World) : Cls (Ext w) w := ⟨fun _ h => h⟩

theorem Yields.bin {P : Program} {e : Env} {d : Option Tmp} {op : BinOp} {t ty : TypeId} {x y : Operand} {tt : TypeId} {ps : String} {af : Array Edge} {g : Option (Nat × Bool)} {k : IntKind} {a b : Int} {v : Value}
    (hx : ev e x = some (.int k a)) (hy : ev e y = some (.int k b)) (h : pbin op (.int k a) (.int k b) = some v) : Yields P e ⟨d, .binOp op t x y ty, tt, ps, af, g⟩ v := by
  intro ρ hρ w
  simp [execOp, hρ _ _ hx, hρ _ _ hy, eqGuard_int, run_binOp_int P op t k a b v h]

theorem YieldsIn.at {P : Program} {e : Env} {w : World} {o : Oper} {v : Value} (h : YieldsIn P e (Same w) o v) : YieldsAt P e w o v := fun ρ hρ m => h ρ hρ _ ⟨m, rfl⟩

/-! ### A region that draws, whose last operations stand in one order -/

structure SL (P : Program) (N : Nat) (ops : Array Oper) (l : List Oper) (e : Env) (w : World) (K : Act → World → Prop) : Prop where
  go : ∀ a m, Fit N e a → wpStill P ops (at' w m) (fun a' => K a' (at' w m)) l a

def cutAt : Nat → List Oper → Option (List Oper × List Oper)
  | 0, l => some ([], l)
  | _ + 1, [] => none
  | n + 1, o :: r =>
    (match cutAt n r with
     | some (p, t) => some (o :: p, t)
     | none => none)

theorem cutAt_eq : ∀ {n : Nat} {l p t : List Oper}, cutAt n l = some (p, t) → l.take n = p ∧ l.drop n = t
  | 0, l, p, t, h => by simp only [cutAt, Option.some.injEq, Prod.mk.injEq] at h; simp [h.1.symm, h.2]
  | n + 1, [], p, t, h => by cases h
  | n + 1, o :: r, p, t, h => by
    unfold cutAt at h
    split at h
    · rename_i p' t' hc
      simp only [Option.some.injEq, Prod.mk.injEq] at h
      obtain ⟨rfl, rfl⟩ := h
      have := cutAt_eq hc
      simp [this.1, this.2]
    · cases h

section still
variable {P : Program} {N : Nat} {e : Env} {w : World} {Q : Exit → Act → World → Prop} {K : Act → World → Prop} {ops : List Oper} {l : List Oper}

theorem W.regionT {id : Nat} {l pre tail : List Oper} (n : Nat) (hm : P.follows .mixedOrders = true) (hB : Region.lexTailB .any l.toArray n = true) (hc : cutAt n l = some (pre, tail))
    (h : SL P N l.toArray pre e w (fun a w' => wpList P l.toArray Q tail a w')) : W P N (.region id l.toArray true) e w Q := by
  refine ⟨fun a m hf => ?_⟩
  obtain ⟨h1, h2⟩ := cutAt_eq hc
  refine wp_region_still_tail n hm hB ?_
  rw [h1, h2]
  exact h.go a (m + 1) hf

theorem SL.nil {tail : List Oper} {ops : Array Oper} (h : WL P N ops tail e w Q) : SL P N ops [] e w (fun a w' => wpList P ops Q tail a w') := ⟨fun a m hf => h.go a m hf⟩

theorem SL.guardF {d : Nat} {op : Op} {tt : TypeId} {ps : String} {af : Array Edge} {g : Option (Nat × Bool)} (hg : gate ops e g = some false) (hd : Nat.blt d N = true)
    (k : SL P N ops.toArray l ((d, undef) :: e) w K) : SL P N ops.toArray (⟨some d, op, tt, ps, af, g⟩ :: l) e w K := by
  refine ⟨fun a m hf => ?_⟩
  unfold wpStill
  rw [if_neg (by rw [gate_wanted hf (o := ⟨some d, op, tt, ps, af, g⟩) hg]; simp)]
  exact k.go _ m (hf.put (by simpa [Nat.blt_eq] using hd) undef)

theorem SL.step {d : Nat} {op : Op} {tt : TypeId} {ps : String} {af : Array Edge} {g : Option (Nat × Bool)} {v : Value} (hg : gate ops e g = some true) (hd : Nat.blt d N = true)
    (h : YieldsIn P e (Same w) ⟨some d, op, tt, ps, af, g⟩ v) (k : SL P N ops.toArray l ((d, v) :: e) w K) : SL P N ops.toArray (⟨some d, op, tt, ps, af, g⟩ :: l) e w K := by
  refine ⟨fun a m hf => ?_⟩
  unfold wpStill
  rw [if_pos (by rw [gate_wanted hf (o := ⟨some d, op, tt, ps, af, g⟩) hg])]
  unfold Oper.still
  rw [h a.eval (fun x u hx => hf.eval hx) _ ⟨m, rfl⟩]
  exact ⟨rfl, k.go _ m (hf.put (by simpa [Nat.blt_eq] using hd) v)⟩

theorem SL.split {d : Nat} {b : Bool} (hd : get e d = some (.bool b)) (ht : b = true → SL P N ops.toArray l ((d, .bool true) :: e) w K) (hf : b = false → SL P N ops.toArray l ((d, .bool false) :: e) w K) : SL P N ops.toArray l e w K := by
  refine ⟨fun a m h => ?_⟩
  cases b
  · exact (hf rfl).go a m (h.shadow hd)
  · exact (ht rfl).go a m (h.shadow hd)
end still

/-! ### A guard that is not yet known: its bool becomes known -/
section gsplit
variable {P : Program} {N : Nat} {e : Env} {w : World} {Q : Exit → Act → World → Prop} {K : Act → World → Prop} {C : World → Prop} {ops : List Oper} {l : List Oper}
theorem WL.gD {o : Option Tmp} {op : Op} {tt : TypeId} {ps : String} {af : Array Edge} {j : Nat} {g : Bool} {d : Nat} {p : Prop} (hj : dstAt ops j = some d) (hd : get e d = some (.bool (dec p)))
    (ht : p → WL P N ops.toArray (⟨o, op, tt, ps, af, some (j, g)⟩ :: l) ((d, .bool true) :: e) w Q) (hf : ¬ p → WL P N ops.toArray (⟨o, op, tt, ps, af, some (j, g)⟩ :: l) ((d, .bool false) :: e) w Q) :
    WL P N ops.toArray (⟨o, op, tt, ps, af, some (j, g)⟩ :: l) e w Q := WL.split hd (fun h => ht (of_dec h)) (fun h => hf (of_dec_false h))
theorem WL.gB {o : Option Tmp} {op : Op} {tt : TypeId} {ps : String} {af : Array Edge} {j : Nat} {g : Bool} {d : Nat} {b : Bool} (hj : dstAt ops j = some d) (hd : get e d = some (.bool b))
    (ht : b = true → WL P N ops.toArray (⟨o, op, tt, ps, af, some (j, g)⟩ :: l) ((d, .bool true) :: e) w Q) (hf : b = false → WL P N ops.toArray (⟨o, op, tt, ps, af, some (j, g)⟩ :: l) ((d, .bool false) :: e) w Q) :
    WL P N ops.toArray (⟨o, op, tt, ps, af, some (j, g)⟩ :: l) e w Q := WL.split hd ht hf
theorem QL.gD {o : Option Tmp} {op : Op} {tt : TypeId} {ps : String} {af : Array Edge} {j : Nat} {g : Bool} {d : Nat} {p : Prop} (hj : dstAt ops j = some d) (hd : get e d = some (.bool (dec p)))
    (ht : p → QL P N C ops.toArray (⟨o, op, tt, ps, af, some (j, g)⟩ :: l) ((d, .bool true) :: e) Q) (hf : ¬ p → QL P N C ops.toArray (⟨o, op, tt, ps, af, some (j, g)⟩ :: l) ((d, .bool false) :: e) Q) :
    QL P N C ops.toArray (⟨o, op, tt, ps, af, some (j, g)⟩ :: l) e Q := QL.split hd (fun h => ht (of_dec h)) (fun h => hf (of_dec_false h))
theorem QL.gB {o : Option Tmp} {op : Op} {tt : TypeId} {ps : String} {af : Array Edge} {j : Nat} {g : Bool} {d : Nat} {b : Bool} (hj : dstAt ops j = some d) (hd : get e d = some (.bool b))
    (ht : b = true → QL P N C ops.toArray (⟨o, op, tt, ps, af, some (j, g)⟩ :: l) ((d, .bool true) :: e) Q) (hf : b = false → QL P N C ops.toArray (⟨o, op, tt, ps, af, some (j, g)⟩ :: l) ((d, .bool false) :: e) Q) :
    QL P N C ops.toArray (⟨o, op, tt, ps, af, some (j, g)⟩ :: l) e Q := QL.split hd ht hf
theorem SL.gD {o : Option Tmp} {op : Op} {tt : TypeId} {ps : String} {af : Array Edge} {j : Nat} {g : Bool} {d : Nat} {p : Prop} (hj : dstAt ops j = some d) (hd : get e d = some (.bool (dec p)))
    (ht : p → SL P N ops.toArray (⟨o, op, tt, ps, af, some (j, g)⟩ :: l) ((d, .bool true) :: e) w K) (hf : ¬ p → SL P N ops.toArray (⟨o, op, tt, ps, af, some (j, g)⟩ :: l) ((d, .bool false) :: e) w K) :
    SL P N ops.toArray (⟨o, op, tt, ps, af, some (j, g)⟩ :: l) e w K := SL.split hd (fun h => ht (of_dec h)) (fun h => hf (of_dec_false h))
theorem SL.gB {o : Option Tmp} {op : Op} {tt : TypeId} {ps : String} {af : Array Edge} {j : Nat} {g : Bool} {d : Nat} {b : Bool} (hj : dstAt ops j = some d) (hd : get e d = some (.bool b))
    (ht : b = true → SL P N ops.toArray (⟨o, op, tt, ps, af, some (j, g)⟩ :: l) ((d, .bool true) :: e) w K) (hf : b = false → SL P N ops.toArray (⟨o, op, tt, ps, af, some (j, g)⟩ :: l) ((d, .bool false) :: e) w K) :
    SL P N ops.toArray (⟨o, op, tt, ps, af, some (j, g)⟩ :: l) e w K := SL.split hd ht hf
theorem WL.gN {o : Option Tmp} {op : Op} {tt : TypeId} {ps : String} {af : Array Edge} {j : Nat} {g : Bool} {d : Nat} {p : Prop} (hj : dstAt ops j = some d) (hd : get e d = some (.bool (!dec p)))
    (ht : ¬ p → WL P N ops.toArray (⟨o, op, tt, ps, af, some (j, g)⟩ :: l) ((d, .bool true) :: e) w Q) (hf : p → WL P N ops.toArray (⟨o, op, tt, ps, af, some (j, g)⟩ :: l) ((d, .bool false) :: e) w Q) :
    WL P N ops.toArray (⟨o, op, tt, ps, af, some (j, g)⟩ :: l) e w Q := WL.split hd (fun h => ht (of_dec_false (by simpa using h))) (fun h => hf (of_dec (by simpa using h)))
theorem QL.gN {o : Option Tmp} {op : Op} {tt : TypeId} {ps : String} {af : Array Edge} {j : Nat} {g : Bool} {d : Nat} {p : Prop} (hj : dstAt ops j = some d) (hd : get e d = some (.bool (!dec p)))
    (ht : ¬ p → QL P N C ops.toArray (⟨o, op, tt, ps, af, some (j, g)⟩ :: l) ((d, .bool true) :: e) Q) (hf : p → QL P N C ops.toArray (⟨o, op, tt, ps, af, some (j, g)⟩ :: l) ((d, .bool false) :: e) Q) :
    QL P N C ops.toArray (⟨o, op, tt, ps, af, some (j, g)⟩ :: l) e Q := QL.split hd (fun h => ht (of_dec_false (by simpa using h))) (fun h => hf (of_dec (by simpa using h)))
theorem SL.gN {o : Option Tmp} {op : Op} {tt : TypeId} {ps : String} {af : Array Edge} {j : Nat} {g : Bool} {d : Nat} {p : Prop} (hj : dstAt ops j = some d) (hd : get e d = some (.bool (!dec p)))
    (ht : ¬ p → SL P N ops.toArray (⟨o, op, tt, ps, af, some (j, g)⟩ :: l) ((d, .bool true) :: e) w K) (hf : p → SL P N ops.toArray (⟨o, op, tt, ps, af, some (j, g)⟩ :: l) ((d, .bool false) :: e) w K) :
    SL P N ops.toArray (⟨o, op, tt, ps, af, some (j, g)⟩ :: l) e w K := SL.split hd (fun h => ht (of_dec_false (by simpa using h))) (fun h => hf (of_dec (by simpa using h)))
end gsplit

/-! ### Arithmetic on int within its range; on the other ways it goes round ('pev') -/
section arith
variable {P : Program} {e : Env} {dd : Option Tmp} {t ty tt : TypeId} {x y : Operand} {ps : String} {af : Array Edge} {g : Option (Nat × Bool)} {a b : Int}

abbrev inI64 (n : Int) : Prop := -9223372036854775808 ≤ n ∧ n ≤ 9223372036854775807

theorem yadd (hx : ev e x = some (.int .i64 a)) (hy : ev e y = some (.int .i64 b)) (h : inI64 (a + b)) : Yields P e ⟨dd, .binOp .add t x y ty, tt, ps, af, g⟩ (.int .i64 (a + b)) := by
  have := Yields.bin (P := P) (d := dd) (op := .add) (t := t) (ty := ty) (tt := tt) (ps := ps) (af := af) (g := g) hx hy (v := .int .i64 (IntKind.i64.wrap (a + b))) rfl
  rwa [IntWalk.i64_in _ h] at this
theorem ysub (hx : ev e x = some (.int .i64 a)) (hy : ev e y = some (.int .i64 b)) (h : inI64 (a - b)) : Yields P e ⟨dd, .binOp .sub t x y ty, tt, ps, af, g⟩ (.int .i64 (a - b)) := by
  have := Yields.bin (P := P) (d := dd) (op := .sub) (t := t) (ty := ty) (tt := tt) (ps := ps) (af := af) (g := g) hx hy (v := .int .i64 (IntKind.i64.wrap (a - b))) rfl
  rwa [IntWalk.i64_in _ h] at this
theorem ymul (hx : ev e x = some (.int .i64 a)) (hy : ev e y = some (.int .i64 b)) (h : inI64 (a * b)) : Yields P e ⟨dd, .binOp .mul t x y ty, tt, ps, af, g⟩ (.int .i64 (a * b)) := by
  have := Yields.bin (P := P) (d := dd) (op := .mul) (t := t) (ty := ty) (tt := tt) (ps := ps) (af := af) (g := g) hx hy (v := .int .i64 (IntKind.i64.wrap (a * b))) rfl
  rwa [IntWalk.i64_in _ h] at this
theorem run_div (op : BinOp) (k : IntKind) (v : Value) (hb : b ≠ 0) (h : (op = .quo ∧ v = .int k (k.wrap (a.tdiv b))) ∨ (op = .rem ∧ v = .int k (a.tmod b))) (w : World) :
    (binOp op t (.int k a) (.int k b)).run P w = .ok v w := by
  rcases h with ⟨rfl, rfl⟩ | ⟨rfl, rfl⟩ <;> simp [binOp, Op.intDiv, hb]
theorem ydiv {k : IntKind} {op : BinOp} {v : Value} (hx : ev e x = some (.int k a)) (hy : ev e y = some (.int k b)) (hb : b ≠ 0) (h : (op = .quo ∧ v = .int k (k.wrap (a.tdiv b))) ∨ (op = .rem ∧ v = .int k (a.tmod b))) :
    Yields P e ⟨dd, .binOp op t x y ty, tt, ps, af, g⟩ v := by
  intro ρ hρ w
  simp [execOp, hρ _ _ hx, hρ _ _ hy, eqGuard_int, run_div op k v hb h]
theorem yquo (hx : ev e x = some (.int .i64 a)) (hy : ev e y = some (.int .i64 b)) (h : 0 ≤ a ∧ a ≤ 9223372036854775807 ∧ 1 ≤ b) : Yields P e ⟨dd, .binOp .quo t x y ty, tt, ps, af, g⟩ (.int .i64 (a / b)) := by
  have := ydiv (P := P) (dd := dd) (op := .quo) (t := t) (ty := ty) (tt := tt) (ps := ps) (af := af) (g := g) hx hy (by omega) (.inl ⟨rfl, rfl⟩)
  rwa [IntWalk.i64_quo _ _ h] at this
theorem yrem (hx : ev e x = some (.int .i64 a)) (hy : ev e y = some (.int .i64 b)) (h : 0 ≤ a ∧ 1 ≤ b) : Yields P e ⟨dd, .binOp .rem t x y ty, tt, ps, af, g⟩ (.int .i64 (a % b)) := by
  have := ydiv (P := P) (dd := dd) (op := .rem) (t := t) (ty := ty) (tt := tt) (ps := ps) (af := af) (g := g) hx hy (by omega) (.inr ⟨rfl, rfl⟩)
  rwa [IntWalk.rem_in _ _ h.1] at this
theorem yremw (hx : ev e x = some (.int .i64 a)) (hy : ev e y = some (.int .i64 b)) (h : b ≠ 0) : Yields P e ⟨dd, .binOp .rem t x y ty, tt, ps, af, g⟩ (.int .i64 (a.tmod b)) :=
  ydiv (P := P) (dd := dd) (op := .rem) (t := t) (ty := ty) (tt := tt) (ps := ps) (af := af) (g := g) hx hy h (.inr ⟨rfl, rfl⟩)
theorem yquow (hx : ev e x = some (.int .i64 a)) (hy : ev e y = some (.int .i64 b)) (h : inI64 a ∧ 1 ≤ b) : Yields P e ⟨dd, .binOp .quo t x y ty, tt, ps, af, g⟩ (.int .i64 (a.tdiv b)) := by
  have := ydiv (P := P) (dd := dd) (op := .quo) (t := t) (ty := ty) (tt := tt) (ps := ps) (af := af) (g := g) hx hy (by omega) (.inl ⟨rfl, rfl⟩)
  rwa [IntWalk.i64_quo' _ _ ⟨h.1.1, h.1.2, h.2⟩] at this
end arith

/-! ### Reading -/

/-- The cells from (b, off) on hold these. -/
def Cells (w : World) (b : Nat) : Nat → List Value → Prop
  | _, [] => True
  | off, u :: r => w.cell? ⟨b, off, none⟩ = some u ∧ Cells w b (off + 1) r

theorem Cells.ext {w w' : World} (h : Ext w w') {b : Nat} : ∀ {off : Nat} {l : List Value}, Cells w b off l → Cells w' b off l
  | _, [], _ => trivial
  | _, _ :: _, ⟨h1, h2⟩ => ⟨h.cell h1, Cells.ext h h2⟩

/-- The slice that begins at a reads as the list: s cells an element. -/
structure Row {α : Type} (s : Nat) (enc : α → List Value) (w : World) (a : Option Addr) (l : List α) : Prop where
  len : l.length ≤ 9223372036854775807
  elem : ∀ i x, l[i]? = some x → ∃ b off, a = some ⟨b, off, none⟩ ∧ Cells w b (off + i * s) (enc x)

theorem Row.nil {α : Type} (s : Nat) (enc : α → List Value) (w : World) (a : Option Addr) : Row s enc w a [] := ⟨by simp, fun i x h => by simp at h⟩
theorem Row.ext {α : Type} {s : Nat} {enc : α → List Value} {w w' : World} {a : Option Addr} {l : List α} (h : Row s enc w a l) (hx : Ext w w') : Row s enc w' a l :=
  ⟨h.len, fun i x hi => let ⟨b, off, h1, h2⟩ := h.elem i x hi; ⟨b, off, h1, h2.ext hx⟩⟩

section reads
variable {P : Program} {T : Tab} {C : World → Prop} {e : Env} {dd : Option Tmp} {t tt : TypeId} {x y : Operand} {ps : String} {af : Array Edge} {g : Option (Nat × Bool)} {w w0 : World}

theorem yload [Cls C w] (hT : OkTab P T) {p : Addr} {v : Value} {i : TI} (hx : ev e x = some (.pointer (some p))) (ht : tget T t = some i) (ha : isAggD i.desc = false) (hv : w.cell? p = some v) :
    YieldsIn P e C ⟨dd, .load t x, tt, ps, af, g⟩ v := by
  intro ρ hρ w' hw'
  have h1 := run_isAgg' (hT.at ht); rw [ha] at h1
  have h2 := (Cls.keeps (C := C) w' hw').cell hv
  simp [execOp, hρ _ _ hx, Instr.loadAt, Instr.sureAddr, loadVar, h1, h2]

theorem run_loadCellsFrom {w : World} {b : Nat} : ∀ {l : List Value} {off i : Nat} {acc : Array Value}, Cells w b (off + i) l → (loadCellsFrom ⟨b, off, none⟩ i l.length acc).run P w = .ok (acc ++ l.toArray) w
  | [], off, i, acc, _ => by simp [loadCellsFrom]
  | u :: r, off, i, acc, ⟨h1, h2⟩ => by
    have ih := run_loadCellsFrom (l := r) (off := off) (i := i + 1) (acc := acc.push u) (by simpa [Nat.add_assoc] using h2)
    simp [loadCellsFrom, Addr_add_none, h1, ih]

theorem yloadAgg [Cls C w] (hT : OkTab P T) {b off : Nat} {l : List Value} {i : TI} (hx : ev e x = some (.pointer (some ⟨b, off, none⟩))) (ht : tget T t = some i) (ha : isAggD i.desc = true) (hs : i.size = l.length) (hv : Cells w b off l) :
    YieldsIn P e C ⟨dd, .load t x, tt, ps, af, g⟩ (.agg l.toArray) := by
  intro ρ hρ w' hw'
  have h1 := run_isAgg' (hT.at ht); rw [ha] at h1
  have h3 := run_sizeOf' (hT.at ht); rw [hs] at h3
  have h2 := run_loadCellsFrom (P := P) (acc := #[]) (off := off) (i := 0) (hv.ext (Cls.keeps (C := C) w' hw'))
  simp [execOp, hρ _ _ hx, Instr.loadAt, Instr.sureAddr, loadVar, h1, h3, loadCells, h2]

theorem yindex (hT : OkTab P T) {α : Type} {s : Nat} {enc : α → List Value} {a : Option Addr} {l : List α} {n cap : Nat} {k : IntKind} {i : Int} {ti ei : TI} {el : TypeId} {z : α}
    (hx : ev e x = some (.slice a n cap)) (hy : ev e y = some (.int k i)) (ht : tget T t = some ti) (hd : ti.desc = .slice el) (he : tget T el = some ei) (hs : ei.size = s)
    (R : Row s enc w0 a l) (E : Ext w0 w) (hn : l.length = n) (h0 : 0 ≤ i) (hz : l[i.toNat]? = some z) :
    ∃ b off, Cells w b off (enc z) ∧ Yields P e ⟨dd, .indexAddr t x y, tt, ps, af, g⟩ (.pointer (some ⟨b, off, none⟩)) := by
  obtain ⟨b, off, ha, hc⟩ := R.elem _ _ hz
  refine ⟨b, off + i.toNat * s, hc.ext E, ?_⟩
  intro ρ hρ w'
  have hlt : i.toNat < l.length := (List.getElem?_eq_some_iff.1 hz).1
  have h1 := run_underlying' (hT.at ht); rw [hd] at h1
  have h2 := run_sizeOf' (hT.at he); rw [hs] at h2
  have h3 : i < (n : Int) := by omega
  subst ha
  simp [execOp, hρ _ _ hx, hρ _ _ hy, Instr.indexAt, asIntOf, h1, h2, h0, h3, Addr_add_none]
end reads
end Go.Lt
