/- The steps of a region: sequential, and in whatever order where all only reads. Generic over the program. No conditions. -/
import Derived.Test.YtfkdlepemiepdaaLtOps
namespace Go.Lt
open Go.RowKit
set_option linter.unusedVariables false
set_option linter.unusedSimpArgs false

/-- The slot that operation number j writes. -/
def dstAt : List Oper → Nat → Option Nat
  | [], _ => none
  | o :: _, 0 => o.dst
  | _ :: r, j + 1 => dstAt r j

theorem dstAt_eq (l : List Oper) (j : Nat) : (l.toArray[j]?).bind (·.dst) = dstAt l j := by
  induction l generalizing j with
  | nil => simp [dstAt]
  | cons o r ih =>
    cases j with
    | zero => simp [dstAt]
    | succ j => have := ih j; simpa [dstAt] using this

/-- What the guard says, where it is known. -/
def gate (ops : List Oper) (e : Env) : Option (Nat × Bool) → Option Bool
  | none => some true
  | some (j, b) =>
    (match dstAt ops j with
     | some d =>
       (match get e d with
        | some (.bool c) => some (bif c then b else !b)
        | some (.tuple _) => some false
        | _ => none)
     | none => none)

theorem gate_wanted {N : Nat} {ops : List Oper} {e : Env} {a : Act} (h : Fit N e a) {o : Oper} {r : Bool} (hg : gate ops e o.guard = some r) : Region.wanted o (yielded ops.toArray a.tmps) = r := by
  unfold Region.wanted
  unfold gate at hg
  split at hg
  · rename_i hgd; rw [hgd]; simpa using hg
  · rename_i j b hgd
    rw [hgd]
    simp only
    unfold yielded
    rw [dstAt_eq]
    split at hg
    · rename_i d hd
      rw [hd]
      split at hg
      · rename_i c hc
        simp only [Option.some.injEq] at hg
        simp only [Option.bind_some, h.slots _ _ hc]
        cases c <;> cases b <;> simp at hg <;> subst hg <;> rfl
      · rename_i x hc
        simp only [Option.some.injEq] at hg; subst hg
        simp only [Option.bind_some, h.slots _ _ hc]
        rfl
      · cases hg
    · cases hg

/-- The worlds that are w but for draws. -/
abbrev Same (w : World) : World → Prop := fun w' => ∃ m, w' = at' w m

/-- Whatever the world of the class. -/
def YieldsIn (P : Program) (e : Env) (C : World → Prop) (o : Oper) (v : Value) : Prop := ∀ (ρ : Operand → Value), (∀ x u, ev e x = some u → ρ x = u) → ∀ w, C w → (execOp ρ o).run P w = .ok (.value v) w

theorem Yields.in {P : Program} {e : Env} {C : World → Prop} {o : Oper} {v : Value} (h : Yields P e o v) : YieldsIn P e C o v := fun ρ hρ w _ => h ρ hρ w

/-! ### Sequential -/
section seq
variable {P : Program} {N : Nat} {e : Env} {w : World} {Q : Exit → Act → World → Prop} {ops : List Oper} {l : List Oper}

theorem WL.guardF {d : Nat} {op : Op} {tt : TypeId} {ps : String} {af : Array Edge} {g : Option (Nat × Bool)} (hg : gate ops e g = some false) (hd : Nat.blt d N = true)
    (k : WL P N ops.toArray l ((d, undef) :: e) w Q) : WL P N ops.toArray (⟨some d, op, tt, ps, af, g⟩ :: l) e w Q := by
  refine ⟨fun a m hf => ?_⟩
  unfold wpList
  rw [if_neg (by rw [gate_wanted hf (o := ⟨some d, op, tt, ps, af, g⟩) hg]; simp)]
  exact k.go _ m (hf.put (by simpa [Nat.blt_eq] using hd) undef)

theorem WL.step {d : Nat} {op : Op} {tt : TypeId} {ps : String} {af : Array Edge} {g : Option (Nat × Bool)} {v : Value} (hg : gate ops e g = some true) (hd : Nat.blt d N = true)
    (h : YieldsIn P e (Same w) ⟨some d, op, tt, ps, af, g⟩ v) (k : WL P N ops.toArray l ((d, v) :: e) w Q) : WL P N ops.toArray (⟨some d, op, tt, ps, af, g⟩ :: l) e w Q := by
  refine ⟨fun a m hf => ?_⟩
  unfold wpList
  rw [if_pos (by rw [gate_wanted hf (o := ⟨some d, op, tt, ps, af, g⟩) hg])]
  refine .inl ?_
  unfold Oper.wp
  rw [h a.eval (fun x u hx => hf.eval hx) _ ⟨m, rfl⟩]
  exact k.go _ m (hf.put (by simpa [Nat.blt_eq] using hd) v)

/-- A bool in a slot becomes known. -/
theorem WL.split {d : Nat} {b : Bool} (hd : get e d = some (.bool b)) (ht : b = true → WL P N ops.toArray l ((d, .bool true) :: e) w Q) (hf : b = false → WL P N ops.toArray l ((d, .bool false) :: e) w Q) : WL P N ops.toArray l e w Q := by
  refine ⟨fun a m h => ?_⟩
  cases b
  · exact (hf rfl).go a m (h.shadow hd)
  · exact (ht rfl).go a m (h.shadow hd)
theorem WL.splitD {d : Nat} {p : Prop} (hd : get e d = some (.bool (dec p))) (ht : p → WL P N ops.toArray l ((d, .bool true) :: e) w Q) (hf : ¬ p → WL P N ops.toArray l ((d, .bool false) :: e) w Q) : WL P N ops.toArray l e w Q :=
  WL.split hd (fun h => ht (of_dec h)) (fun h => hf (of_dec_false h))

/-- A call of a Go function, by its contract. -/
theorem WL.call {d : Nat} {f : FuncId} {args : List Operand} {ts : Array TypeId} {tt : TypeId} {ps : String} {af : Array Edge} {g : Option (Nat × Bool)} {c : Operand} {us vs : List Value} {R : Value → World → Prop}
    (hg : gate ops e g = some true) (hd : Nat.blt d N = true) (hc : ev e c = some (.func (.func f) #[] us.toArray)) (hv : evs e args = some vs)
    (h : Spec P f (vs ++ us) w R) (k : ∀ v w', R v w' → WL P N ops.toArray l ((d, v) :: e) w' Q) :
    WL P N ops.toArray (⟨some d, .call ⟨.value c, args.toArray, ts⟩, tt, ps, af, g⟩ :: l) e w Q := by
  refine ⟨fun a m hf => ?_⟩
  unfold wpList
  rw [if_pos (by rw [gate_wanted hf (o := ⟨some d, .call ⟨.value c, args.toArray, ts⟩, tt, ps, af, g⟩) hg])]
  refine .inl ?_
  unfold Oper.wp
  have hrun : (execOp a.eval ⟨some d, .call ⟨.value c, args.toArray, ts⟩, tt, ps, af, g⟩).run P (at' w m) = .ok (.enter f (vs ++ us).toArray) (at' w m) := by
    have h1 := evs_map (ρ := a.eval) (fun x u hx => hf.eval hx) hv
    have HC := h.1
    simp [execOp, resolve, hf.eval hc, Deferred.ofValue, invoke, HC.run, h1]
  rw [hrun]
  refine (h.2 m).mono ?_
  rintro x w' ⟨v, rfl, hR⟩
  exact (k v w' hR).go _ w'.drawn (hf.put (by simpa [Nat.blt_eq] using hd) v)

end seq

/-! ### In whatever order -/

/-- What is asked of the operations of a region that draws: C is the class of the worlds that it may come by. -/
structure QL (P : Program) (N : Nat) (C : World → Prop) (ops : Array Oper) (l : List Oper) (e : Env) (Q : Exit → Act → World → Prop) : Prop where
  go : ∀ a, Fit N e a → wpQuiet P ops C (fun a' => ∀ w', C w' → Q .normal a' w') l a

section quiet
variable {P : Program} {N : Nat} {e : Env} {w : World} {Q : Exit → Act → World → Prop} {ops : List Oper} {l : List Oper} {C : World → Prop}

theorem W.regionD {id : Nat} {l : List Oper} (hm : P.follows .mixedOrders = true) (hB : Region.lexB .any l.toArray = true) (h : QL P N (Same w) l.toArray l e Q) : W P N (.region id l.toArray true) e w Q := by
  refine ⟨fun a m hf => ?_⟩
  refine wp_region_quiet (C := Same w) hm hB ⟨m + 1, rfl⟩ ?_
  simpa using h.go a hf

/-- The same where calls make memory: what was there stays. -/
theorem W.regionX {id : Nat} {l : List Oper} (hm : P.follows .mixedOrders = true) (hB : Region.lexB .any l.toArray = true) (h : QL P N (Ext w) l.toArray l e Q) : W P N (.region id l.toArray true) e w Q := by
  refine ⟨fun a m hf => ?_⟩
  refine wp_region_quiet (C := Ext w) hm hB ((Ext.refl w).at (m + 1)) ?_
  simpa using h.go a hf

theorem QL.nil {ops : Array Oper} (h : Z N Q .normal e w) : QL P N (Same w) ops [] e Q := by
  refine ⟨fun a hf w' ⟨m, hw⟩ => ?_⟩
  subst hw; exact h.go a m hf
theorem QL.nilX {ops : Array Oper} (h : ∀ w', Ext w w' → Z N Q .normal e w') : QL P N (Ext w) ops [] e Q := by
  refine ⟨fun a hf w' hw => ?_⟩
  exact (h w' hw).go a w'.drawn hf

theorem QL.guardF {d : Nat} {op : Op} {tt : TypeId} {ps : String} {af : Array Edge} {g : Option (Nat × Bool)} (hg : gate ops e g = some false) (hd : Nat.blt d N = true)
    (k : QL P N C ops.toArray l ((d, undef) :: e) Q) : QL P N C ops.toArray (⟨some d, op, tt, ps, af, g⟩ :: l) e Q := by
  refine ⟨fun a hf => ?_⟩
  unfold wpQuiet
  rw [if_neg (by rw [gate_wanted hf (o := ⟨some d, op, tt, ps, af, g⟩) hg]; simp)]
  exact k.go _ (hf.put (by simpa [Nat.blt_eq] using hd) undef)

theorem QL.step {d : Nat} {op : Op} {tt : TypeId} {ps : String} {af : Array Edge} {g : Option (Nat × Bool)} {v : Value} (hg : gate ops e g = some true) (hd : Nat.blt d N = true)
    (h : YieldsIn P e C ⟨some d, op, tt, ps, af, g⟩ v) (k : QL P N C ops.toArray l ((d, v) :: e) Q) : QL P N C ops.toArray (⟨some d, op, tt, ps, af, g⟩ :: l) e Q := by
  refine ⟨fun a hf => ?_⟩
  unfold wpQuiet
  rw [if_pos (by rw [gate_wanted hf (o := ⟨some d, op, tt, ps, af, g⟩) hg])]
  refine ⟨v, fun w hw => ?_, k.go _ (hf.put (by simpa [Nat.blt_eq] using hd) v)⟩
  unfold Oper.quietAt
  rw [h a.eval (fun x u hx => hf.eval hx) w hw]
  exact ⟨rfl, rfl⟩

theorem QL.split {d : Nat} {b : Bool} (hd : get e d = some (.bool b)) (ht : b = true → QL P N C ops.toArray l ((d, .bool true) :: e) Q) (hf : b = false → QL P N C ops.toArray l ((d, .bool false) :: e) Q) : QL P N C ops.toArray l e Q := by
  refine ⟨fun a h => ?_⟩
  cases b
  · exact (hf rfl).go a (h.shadow hd)
  · exact (ht rfl).go a (h.shadow hd)
theorem QL.splitD {d : Nat} {p : Prop} (hd : get e d = some (.bool (dec p))) (ht : p → QL P N C ops.toArray l ((d, .bool true) :: e) Q) (hf : ¬ p → QL P N C ops.toArray l ((d, .bool false) :: e) Q) : QL P N C ops.toArray l e Q :=
  QL.split hd (fun h => ht (of_dec h)) (fun h => hf (of_dec_false h))

/-- A call that yields v, whatever the world of the class, and leaves one of the class. -/
theorem QL.call {d : Nat} {f : FuncId} {args : List Operand} {ts : Array TypeId} {tt : TypeId} {ps : String} {af : Array Edge} {g : Option (Nat × Bool)} {c : Operand} {us vs : List Value} {v : Value}
    (hg : gate ops e g = some true) (hd : Nat.blt d N = true) (hc : ev e c = some (.func (.func f) #[] us.toArray)) (hv : evs e args = some vs)
    (h : ∀ w, C w → Spec P f (vs ++ us) w (fun u w' => u = v ∧ C w')) (k : QL P N C ops.toArray l ((d, v) :: e) Q) :
    QL P N C ops.toArray (⟨some d, .call ⟨.value c, args.toArray, ts⟩, tt, ps, af, g⟩ :: l) e Q := by
  refine ⟨fun a hf => ?_⟩
  unfold wpQuiet
  rw [if_pos (by rw [gate_wanted hf (o := ⟨some d, .call ⟨.value c, args.toArray, ts⟩, tt, ps, af, g⟩) hg])]
  refine ⟨v, fun w hw => ?_, k.go _ (hf.put (by simpa [Nat.blt_eq] using hd) v)⟩
  unfold Oper.quietAt
  have hrun : (execOp a.eval ⟨some d, .call ⟨.value c, args.toArray, ts⟩, tt, ps, af, g⟩).run P w = .ok (.enter f (vs ++ us).toArray) w := by
    have h1 := evs_map (ρ := a.eval) (fun x u hx => hf.eval hx) hv
    have HC := (h w hw).1
    simp [execOp, resolve, hf.eval hc, Deferred.ofValue, invoke, HC.run, h1]
  rw [hrun]
  refine ⟨rfl, ((h w hw).2 w.drawn).mono ?_⟩
  rintro x w' ⟨u, rfl, rfl, hC⟩
  exact ⟨rfl, hC⟩
end quiet

/-- A contract of a function that answers v and only makes memory. -/
abbrev Pure (P : Program) (f : FuncId) (args : List Value) (w : World) (v : Value) : Prop := Spec P f args w fun u w' => u = v ∧ Ext w w'
/-- .. and not even that. -/
abbrev Still (P : Program) (f : FuncId) (args : List Value) (w : World) (v : Value) : Prop := Spec P f args w fun u w' => u = v ∧ Same w w'

theorem Still.pure {P : Program} {f : FuncId} {args : List Value} {w : World} {v : Value} (h : Still P f args w v) : Pure P f args w v :=
  Spec.mono h fun _ _ ⟨h1, m, h2⟩ => ⟨h1, by subst h2; exact (Ext.refl w).at m⟩

theorem quiet_ext {P : Program} {f : FuncId} {args : List Value} {w : World} {v : Value} (h : ∀ w', Ext w w' → Pure P f args w' v) : ∀ w', Ext w w' → Spec P f args w' (fun u w'' => u = v ∧ Ext w w'') :=
  fun w' hw => Spec.mono (h w' hw) fun _ _ ⟨h1, h2⟩ => ⟨h1, hw.trans h2⟩
theorem quiet_same {P : Program} {f : FuncId} {args : List Value} {w : World} {v : Value} (h : ∀ w', Same w w' → Still P f args w' v) : ∀ w', Same w w' → Spec P f args w' (fun u w'' => u = v ∧ Same w w'') :=
  fun w' hw => Spec.mono (h w' hw) fun _ _ ⟨h1, m, h2⟩ => ⟨h1, by obtain ⟨n, hn⟩ := hw; subst hn; exact ⟨m, h2⟩⟩
end Go.Lt
