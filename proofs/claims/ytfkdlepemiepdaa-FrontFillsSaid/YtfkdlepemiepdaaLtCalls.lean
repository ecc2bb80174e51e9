/- Calls by their contracts. Generic over the program. No conditions. -/
import Derived.Test.YtfkdlepemiepdaaLtOwn2
namespace Go.Lt
open Go.RowKit
set_option linter.unusedVariables false
set_option linter.unusedSimpArgs false
section rules
variable {P : Program} {N : Nat} {e : Env} {w : World} {Q : Exit → Act → World → Prop} {ops : List Oper} {l : List Oper} {T : Tab}
  {d : Nat} {tt : TypeId} {ps : String} {af : Array Edge} {g : Option (Nat × Bool)}

theorem WL.at {ops : Array Oper} {m : Nat} (h : WL P N ops l e w Q) : WL P N ops l e (at' w m) Q := ⟨fun a n hf => h.go a n hf⟩
theorem Z.at {x : Exit} {m : Nat} (h : Z N Q x e w) : Z N Q x e (at' w m) := ⟨fun a n hf => h.go a n hf⟩
theorem Still.at {f : FuncId} {args : List Value} {v : Value} (h : Still P f args w v) (m : Nat) : Still P f args (at' w m) v := ⟨h.1, fun n => h.2 n⟩

/-- A call that answers v and leaves the world alone. -/
theorem WL.callS {f : FuncId} {args : List Operand} {ts : Array TypeId} {c : Operand} {us vs : List Value} {v : Value}
    (hg : gate ops e g = some true) (hd : Nat.blt d N = true) (hc : ev e c = some (.func (.func f) #[] us.toArray)) (hv : evs e args = some vs)
    (h : Still P f (vs ++ us) w v) (k : WL P N ops.toArray l ((d, v) :: e) w Q) : WL P N ops.toArray (⟨some d, .call ⟨.value c, args.toArray, ts⟩, tt, ps, af, g⟩ :: l) e w Q :=
  WL.call hg hd hc hv h fun u w' ⟨hu, m, hw⟩ => by subst hu; subst hw; exact k.at
/-- A call that answers v and makes memory. -/
theorem WL.callP {f : FuncId} {args : List Operand} {ts : Array TypeId} {c : Operand} {us vs : List Value} {v : Value}
    (hg : gate ops e g = some true) (hd : Nat.blt d N = true) (hc : ev e c = some (.func (.func f) #[] us.toArray)) (hv : evs e args = some vs)
    (h : Pure P f (vs ++ us) w v) (k : ∀ w', Ext w w' → WL P N ops.toArray l ((d, v) :: e) w' Q) : WL P N ops.toArray (⟨some d, .call ⟨.value c, args.toArray, ts⟩, tt, ps, af, g⟩ :: l) e w Q :=
  WL.call hg hd hc hv h fun u w' ⟨hu, hw⟩ => by subst hu; exact k w' hw
theorem QL.callS {f : FuncId} {args : List Operand} {ts : Array TypeId} {c : Operand} {us vs : List Value} {v : Value}
    (hg : gate ops e g = some true) (hd : Nat.blt d N = true) (hc : ev e c = some (.func (.func f) #[] us.toArray)) (hv : evs e args = some vs)
    (h : Still P f (vs ++ us) w v) (k : QL P N (Same w) ops.toArray l ((d, v) :: e) Q) : QL P N (Same w) ops.toArray (⟨some d, .call ⟨.value c, args.toArray, ts⟩, tt, ps, af, g⟩ :: l) e Q :=
  QL.call hg hd hc hv (quiet_same fun w' ⟨m, hw⟩ => by subst hw; exact h.at m) k
theorem QL.callP {f : FuncId} {args : List Operand} {ts : Array TypeId} {c : Operand} {us vs : List Value} {v : Value}
    (hg : gate ops e g = some true) (hd : Nat.blt d N = true) (hc : ev e c = some (.func (.func f) #[] us.toArray)) (hv : evs e args = some vs)
    (h : ∀ w', Ext w w' → Pure P f (vs ++ us) w' v) (k : QL P N (Ext w) ops.toArray l ((d, v) :: e) Q) : QL P N (Ext w) ops.toArray (⟨some d, .call ⟨.value c, args.toArray, ts⟩, tt, ps, af, g⟩ :: l) e Q :=
  QL.call hg hd hc hv (quiet_ext h) k
end rules

/-! ### Tests whose outcome is proved -/
section known
variable {P : Program} {N : Nat} {e : Env} {w : World} {Q : Exit → Act → World → Prop} {K : Act → World → Prop} {C : World → Prop} {ops : List Oper} {l : List Oper}
theorem WL.gT {o : Option Tmp} {op : Op} {tt : TypeId} {ps : String} {af : Array Edge} {j : Nat} {g : Bool} {d : Nat} {b : Bool} (hj : dstAt ops j = some d) (hd : get e d = some (.bool b)) (hb : b = true)
    (k : WL P N ops.toArray (⟨o, op, tt, ps, af, some (j, g)⟩ :: l) ((d, .bool true) :: e) w Q) : WL P N ops.toArray (⟨o, op, tt, ps, af, some (j, g)⟩ :: l) e w Q :=
  WL.split hd (fun h => k) (fun h => absurd (h.symm.trans hb) (by decide))
theorem WL.gF {o : Option Tmp} {op : Op} {tt : TypeId} {ps : String} {af : Array Edge} {j : Nat} {g : Bool} {d : Nat} {b : Bool} (hj : dstAt ops j = some d) (hd : get e d = some (.bool b)) (hb : b = false)
    (k : WL P N ops.toArray (⟨o, op, tt, ps, af, some (j, g)⟩ :: l) ((d, .bool false) :: e) w Q) : WL P N ops.toArray (⟨o, op, tt, ps, af, some (j, g)⟩ :: l) e w Q :=
  WL.split hd (fun h => absurd (h.symm.trans hb) (by decide)) (fun h => k)
theorem QL.gT {o : Option Tmp} {op : Op} {tt : TypeId} {ps : String} {af : Array Edge} {j : Nat} {g : Bool} {d : Nat} {b : Bool} (hj : dstAt ops j = some d) (hd : get e d = some (.bool b)) (hb : b = true)
    (k : QL P N C ops.toArray (⟨o, op, tt, ps, af, some (j, g)⟩ :: l) ((d, .bool true) :: e) Q) : QL P N C ops.toArray (⟨o, op, tt, ps, af, some (j, g)⟩ :: l) e Q :=
  QL.split hd (fun h => k) (fun h => absurd (h.symm.trans hb) (by decide))
theorem QL.gF {o : Option Tmp} {op : Op} {tt : TypeId} {ps : String} {af : Array Edge} {j : Nat} {g : Bool} {d : Nat} {b : Bool} (hj : dstAt ops j = some d) (hd : get e d = some (.bool b)) (hb : b = false)
    (k : QL P N C ops.toArray (⟨o, op, tt, ps, af, some (j, g)⟩ :: l) ((d, .bool false) :: e) Q) : QL P N C ops.toArray (⟨o, op, tt, ps, af, some (j, g)⟩ :: l) e Q :=
  QL.split hd (fun h => absurd (h.symm.trans hb) (by decide)) (fun h => k)
theorem SL.gT {o : Option Tmp} {op : Op} {tt : TypeId} {ps : String} {af : Array Edge} {j : Nat} {g : Bool} {d : Nat} {b : Bool} (hj : dstAt ops j = some d) (hd : get e d = some (.bool b)) (hb : b = true)
    (k : SL P N ops.toArray (⟨o, op, tt, ps, af, some (j, g)⟩ :: l) ((d, .bool true) :: e) w K) : SL P N ops.toArray (⟨o, op, tt, ps, af, some (j, g)⟩ :: l) e w K :=
  SL.split hd (fun h => k) (fun h => absurd (h.symm.trans hb) (by decide))
theorem SL.gF {o : Option Tmp} {op : Op} {tt : TypeId} {ps : String} {af : Array Edge} {j : Nat} {g : Bool} {d : Nat} {b : Bool} (hj : dstAt ops j = some d) (hd : get e d = some (.bool b)) (hb : b = false)
    (k : SL P N ops.toArray (⟨o, op, tt, ps, af, some (j, g)⟩ :: l) ((d, .bool false) :: e) w K) : SL P N ops.toArray (⟨o, op, tt, ps, af, some (j, g)⟩ :: l) e w K :=
  SL.split hd (fun h => absurd (h.symm.trans hb) (by decide)) (fun h => k)
theorem W.condKT {c : Operand} {x y : Code} {b : Bool} (hc : ev e c = some (.bool b)) (hb : b = true) (h : W P N x e w Q) : W P N (.cond c x y) e w Q := by subst hb; exact W.condT hc h
theorem W.condKF {c : Operand} {x y : Code} {b : Bool} (hc : ev e c = some (.bool b)) (hb : b = false) (h : W P N y e w Q) : W P N (.cond c x y) e w Q := by subst hb; exact W.condF hc h
end known

/-- Results that are fresh rows. -/
def IsFresh {α : Type} (s : Nat) (enc : α → List Value) (el : TypeId) (w : World) (L : List α) (v : Value) (w' : World) : Prop :=
  Ext w w' ∧ ∃ a cap, v = .slice a L.length cap ∧ Own s enc el w.heap.size w' a cap L

abbrev encI : Int → List Value := fun n => [.int .i64 n]
abbrev encB : Bool → List Value := fun n => [.bool n]
abbrev encU : Int → List Value := fun n => [.int .u64 n]
abbrev encN : Int × Int → List Value := fun x => [.int .i64 x.1, .int .i64 x.2]
abbrev encW : Int × Int → List Value := fun x => [.int .u64 x.1, .int .u64 x.2]
theorem encI_ok : Enc 1 encI := ⟨fun _ => rfl, fun x u hu => by simp at hu; subst hu; rfl, by decide⟩
theorem encB_ok : Enc 1 encB := ⟨fun _ => rfl, fun x u hu => by simp at hu; subst hu; rfl, by decide⟩
theorem encU_ok : Enc 1 encU := ⟨fun _ => rfl, fun x u hu => by simp at hu; subst hu; rfl, by decide⟩
theorem encN_ok : Enc 2 encN := ⟨fun _ => rfl, fun x u hu => by simp at hu; rcases hu with rfl | rfl <;> rfl, by decide⟩
theorem encW_ok : Enc 2 encW := ⟨fun _ => rfl, fun x u hu => by simp at hu; rcases hu with rfl | rfl <;> rfl, by decide⟩
end Go.Lt
