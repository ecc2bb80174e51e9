/- The steps by name, one for each way of walking (in order; in whatever order; ahead of a tail). Printed by a program. Generic over the program. No conditions. -/
import Derived.Test.YtfkdlepemiepdaaLtMem
namespace Go.Lt
open Go.RowKit
set_option linter.unusedVariables false
variable {P : Program} {N : Nat} {e : Env} {w : World} {Q : Exit → Act → World → Prop} {K : Act → World → Prop} {C : World → Prop} {ops : List Oper} {l : List Oper} {T : Tab}

theorem WL.pev {d : Nat} {tt : TypeId} {ps : String} {af : Array Edge} {g : Option (Nat × Bool)} {op : Op} {v : Value} (hT : OkTab P T) (hg : gate ops e g = some true) (hd : Nat.blt d N = true) (h : pev T e op = some v) (k : WL P N ops.toArray l ((d, v) :: e) w Q) : WL P N ops.toArray (⟨some d, op, tt, ps, af, g⟩ :: l) e w Q :=
  WL.step hg hd (pev_yields hT h).in k

theorem WL.add {d : Nat} {tt : TypeId} {ps : String} {af : Array Edge} {g : Option (Nat × Bool)} {t ty : TypeId} {x y : Operand} {a b : Int} (hg : gate ops e g = some true) (hd : Nat.blt d N = true) (hx : ev e x = some (.int .i64 a)) (hy : ev e y = some (.int .i64 b)) (h : inI64 (a + b)) (k : WL P N ops.toArray l ((d, .int .i64 (a + b)) :: e) w Q) : WL P N ops.toArray (⟨some d, .binOp .add t x y ty, tt, ps, af, g⟩ :: l) e w Q :=
  WL.step hg hd (yadd hx hy h).in k

theorem WL.sub {d : Nat} {tt : TypeId} {ps : String} {af : Array Edge} {g : Option (Nat × Bool)} {t ty : TypeId} {x y : Operand} {a b : Int} (hg : gate ops e g = some true) (hd : Nat.blt d N = true) (hx : ev e x = some (.int .i64 a)) (hy : ev e y = some (.int .i64 b)) (h : inI64 (a - b)) (k : WL P N ops.toArray l ((d, .int .i64 (a - b)) :: e) w Q) : WL P N ops.toArray (⟨some d, .binOp .sub t x y ty, tt, ps, af, g⟩ :: l) e w Q :=
  WL.step hg hd (ysub hx hy h).in k

theorem WL.mul {d : Nat} {tt : TypeId} {ps : String} {af : Array Edge} {g : Option (Nat × Bool)} {t ty : TypeId} {x y : Operand} {a b : Int} (hg : gate ops e g = some true) (hd : Nat.blt d N = true) (hx : ev e x = some (.int .i64 a)) (hy : ev e y = some (.int .i64 b)) (h : inI64 (a * b)) (k : WL P N ops.toArray l ((d, .int .i64 (a * b)) :: e) w Q) : WL P N ops.toArray (⟨some d, .binOp .mul t x y ty, tt, ps, af, g⟩ :: l) e w Q :=
  WL.step hg hd (ymul hx hy h).in k

theorem WL.quo {d : Nat} {tt : TypeId} {ps : String} {af : Array Edge} {g : Option (Nat × Bool)} {t ty : TypeId} {x y : Operand} {a b : Int} (hg : gate ops e g = some true) (hd : Nat.blt d N = true) (hx : ev e x = some (.int .i64 a)) (hy : ev e y = some (.int .i64 b)) (h : 0 ≤ a ∧ a ≤ 9223372036854775807 ∧ 1 ≤ b) (k : WL P N ops.toArray l ((d, .int .i64 (a / b)) :: e) w Q) : WL P N ops.toArray (⟨some d, .binOp .quo t x y ty, tt, ps, af, g⟩ :: l) e w Q :=
  WL.step hg hd (yquo hx hy h).in k

theorem WL.rem {d : Nat} {tt : TypeId} {ps : String} {af : Array Edge} {g : Option (Nat × Bool)} {t ty : TypeId} {x y : Operand} {a b : Int} (hg : gate ops e g = some true) (hd : Nat.blt d N = true) (hx : ev e x = some (.int .i64 a)) (hy : ev e y = some (.int .i64 b)) (h : 0 ≤ a ∧ 1 ≤ b) (k : WL P N ops.toArray l ((d, .int .i64 (a % b)) :: e) w Q) : WL P N ops.toArray (⟨some d, .binOp .rem t x y ty, tt, ps, af, g⟩ :: l) e w Q :=
  WL.step hg hd (yrem hx hy h).in k

theorem WL.remw {d : Nat} {tt : TypeId} {ps : String} {af : Array Edge} {g : Option (Nat × Bool)} {t ty : TypeId} {x y : Operand} {a b : Int} (hg : gate ops e g = some true) (hd : Nat.blt d N = true) (hx : ev e x = some (.int .i64 a)) (hy : ev e y = some (.int .i64 b)) (h : b ≠ 0) (k : WL P N ops.toArray l ((d, .int .i64 (a.tmod b)) :: e) w Q) : WL P N ops.toArray (⟨some d, .binOp .rem t x y ty, tt, ps, af, g⟩ :: l) e w Q :=
  WL.step hg hd (yremw hx hy h).in k

theorem WL.quow {d : Nat} {tt : TypeId} {ps : String} {af : Array Edge} {g : Option (Nat × Bool)} {t ty : TypeId} {x y : Operand} {a b : Int} (hg : gate ops e g = some true) (hd : Nat.blt d N = true) (hx : ev e x = some (.int .i64 a)) (hy : ev e y = some (.int .i64 b)) (h : inI64 a ∧ 1 ≤ b) (k : WL P N ops.toArray l ((d, .int .i64 (a.tdiv b)) :: e) w Q) : WL P N ops.toArray (⟨some d, .binOp .quo t x y ty, tt, ps, af, g⟩ :: l) e w Q :=
  WL.step hg hd (yquow hx hy h).in k

theorem WL.load {d : Nat} {tt : TypeId} {ps : String} {af : Array Edge} {g : Option (Nat × Bool)} {t : TypeId} {x : Operand} {p : Addr} {v : Value} {i : TI} (hT : OkTab P T) (hg : gate ops e g = some true) (hd : Nat.blt d N = true) (hx : ev e x = some (.pointer (some p))) (ht : tget T t = some i) (ha : isAggD i.desc = false) (hv : w.cell? p = some v) (k : WL P N ops.toArray l ((d, v) :: e) w Q) : WL P N ops.toArray (⟨some d, .load t x, tt, ps, af, g⟩ :: l) e w Q :=
  WL.step hg hd (yload hT hx ht ha hv) k
theorem WL.loadA {d : Nat} {tt : TypeId} {ps : String} {af : Array Edge} {g : Option (Nat × Bool)} {t : TypeId} {x : Operand} {b off : Nat} {vs : List Value} {i : TI} (hT : OkTab P T) (hg : gate ops e g = some true) (hd : Nat.blt d N = true) (hx : ev e x = some (.pointer (some ⟨b, off, none⟩))) (ht : tget T t = some i) (ha : isAggD i.desc = true) (hv : Cells w b off vs) (hs : i.size = vs.length) (k : WL P N ops.toArray l ((d, .agg vs.toArray) :: e) w Q) : WL P N ops.toArray (⟨some d, .load t x, tt, ps, af, g⟩ :: l) e w Q :=
  WL.step hg hd (yloadAgg hT hx ht ha hs hv) k
theorem WL.index {d : Nat} {tt : TypeId} {ps : String} {af : Array Edge} {g : Option (Nat × Bool)} {t : TypeId} {x y : Operand} {α : Type} {s : Nat} {enc : α → List Value} {a : Option Addr} {xs : List α} {n cap : Nat} {kk : IntKind} {i : Int} {ti ei : TI} {el : TypeId} {z : α} {w0 : World}
    (hT : OkTab P T) (hg : gate ops e g = some true) (hd : Nat.blt d N = true) (hx : ev e x = some (.slice a n cap)) (hy : ev e y = some (.int kk i)) (ht : tget T t = some ti) (htd : ti.desc = .slice el) (he : tget T el = some ei) (hs : ei.size = s)
    (R : Row s enc w0 a xs) (E : Ext w0 w) (hn : xs.length = n) (h0 : 0 ≤ i) (hz : xs[i.toNat]? = some z)
    (k : ∀ b off, Cells w b off (enc z) → WL P N ops.toArray l ((d, .pointer (some ⟨b, off, none⟩)) :: e) w Q) : WL P N ops.toArray (⟨some d, .indexAddr t x y, tt, ps, af, g⟩ :: l) e w Q := by
  obtain ⟨b, off, hc, hy'⟩ := yindex (P := P) (dd := some d) (t := t) (tt := tt) (x := x) (y := y) (ps := ps) (af := af) (g := g) hT hx hy ht htd he hs R E hn h0 hz
  exact WL.step hg hd hy'.in (k b off hc)

theorem QL.pev {d : Nat} {tt : TypeId} {ps : String} {af : Array Edge} {g : Option (Nat × Bool)} {op : Op} {v : Value} (hT : OkTab P T) (hg : gate ops e g = some true) (hd : Nat.blt d N = true) (h : pev T e op = some v) (k : QL P N C ops.toArray l ((d, v) :: e) Q) : QL P N C ops.toArray (⟨some d, op, tt, ps, af, g⟩ :: l) e Q :=
  QL.step hg hd (pev_yields hT h).in k

theorem QL.add {d : Nat} {tt : TypeId} {ps : String} {af : Array Edge} {g : Option (Nat × Bool)} {t ty : TypeId} {x y : Operand} {a b : Int} (hg : gate ops e g = some true) (hd : Nat.blt d N = true) (hx : ev e x = some (.int .i64 a)) (hy : ev e y = some (.int .i64 b)) (h : inI64 (a + b)) (k : QL P N C ops.toArray l ((d, .int .i64 (a + b)) :: e) Q) : QL P N C ops.toArray (⟨some d, .binOp .add t x y ty, tt, ps, af, g⟩ :: l) e Q :=
  QL.step hg hd (yadd hx hy h).in k

theorem QL.sub {d : Nat} {tt : TypeId} {ps : String} {af : Array Edge} {g : Option (Nat × Bool)} {t ty : TypeId} {x y : Operand} {a b : Int} (hg : gate ops e g = some true) (hd : Nat.blt d N = true) (hx : ev e x = some (.int .i64 a)) (hy : ev e y = some (.int .i64 b)) (h : inI64 (a - b)) (k : QL P N C ops.toArray l ((d, .int .i64 (a - b)) :: e) Q) : QL P N C ops.toArray (⟨some d, .binOp .sub t x y ty, tt, ps, af, g⟩ :: l) e Q :=
  QL.step hg hd (ysub hx hy h).in k

theorem QL.mul {d : Nat} {tt : TypeId} {ps : String} {af : Array Edge} {g : Option (Nat × Bool)} {t ty : TypeId} {x y : Operand} {a b : Int} (hg : gate ops e g = some true) (hd : Nat.blt d N = true) (hx : ev e x = some (.int .i64 a)) (hy : ev e y = some (.int .i64 b)) (h : inI64 (a * b)) (k : QL P N C ops.toArray l ((d, .int .i64 (a * b)) :: e) Q) : QL P N C ops.toArray (⟨some d, .binOp .mul t x y ty, tt, ps, af, g⟩ :: l) e Q :=
  QL.step hg hd (ymul hx hy h).in k

theorem QL.quo {d : Nat} {tt : TypeId} {ps : String} {af : Array Edge} {g : Option (Nat × Bool)} {t ty : TypeId} {x y : Operand} {a b : Int} (hg : gate ops e g = some true) (hd : Nat.blt d N = true) (hx : ev e x = some (.int .i64 a)) (hy : ev e y = some (.int .i64 b)) (h : 0 ≤ a ∧ a ≤ 9223372036854775807 ∧ 1 ≤ b) (k : QL P N C ops.toArray l ((d, .int .i64 (a / b)) :: e) Q) : QL P N C ops.toArray (⟨some d, .binOp .quo t x y ty, tt, ps, af, g⟩ :: l) e Q :=
  QL.step hg hd (yquo hx hy h).in k

theorem QL.rem {d : Nat} {tt : TypeId} {ps : String} {af : Array Edge} {g : Option (Nat × Bool)} {t ty : TypeId} {x y : Operand} {a b : Int} (hg : gate ops e g = some true) (hd : Nat.blt d N = true) (hx : ev e x = some (.int .i64 a)) (hy : ev e y = some (.int .i64 b)) (h : 0 ≤ a ∧ 1 ≤ b) (k : QL P N C ops.toArray l ((d, .int .i64 (a % b)) :: e) Q) : QL P N C ops.toArray (⟨some d, .binOp .rem t x y ty, tt, ps, af, g⟩ :: l) e Q :=
  QL.step hg hd (yrem hx hy h).in k

theorem QL.remw {d : Nat} {tt : TypeId} {ps : String} {af : Array Edge} {g : Option (Nat × Bool)} {t ty : TypeId} {x y : Operand} {a b : Int} (hg : gate ops e g = some true) (hd : Nat.blt d N = true) (hx : ev e x = some (.int .i64 a)) (hy : ev e y = some (.int .i64 b)) (h : b ≠ 0) (k : QL P N C ops.toArray l ((d, .int .i64 (a.tmod b)) :: e) Q) : QL P N C ops.toArray (⟨some d, .binOp .rem t x y ty, tt, ps, af, g⟩ :: l) e Q :=
  QL.step hg hd (yremw hx hy h).in k

theorem QL.quow {d : Nat} {tt : TypeId} {ps : String} {af : Array Edge} {g : Option (Nat × Bool)} {t ty : TypeId} {x y : Operand} {a b : Int} (hg : gate ops e g = some true) (hd : Nat.blt d N = true) (hx : ev e x = some (.int .i64 a)) (hy : ev e y = some (.int .i64 b)) (h : inI64 a ∧ 1 ≤ b) (k : QL P N C ops.toArray l ((d, .int .i64 (a.tdiv b)) :: e) Q) : QL P N C ops.toArray (⟨some d, .binOp .quo t x y ty, tt, ps, af, g⟩ :: l) e Q :=
  QL.step hg hd (yquow hx hy h).in k

theorem QL.load [Cls C w] {d : Nat} {tt : TypeId} {ps : String} {af : Array Edge} {g : Option (Nat × Bool)} {t : TypeId} {x : Operand} {p : Addr} {v : Value} {i : TI} (hT : OkTab P T) (hg : gate ops e g = some true) (hd : Nat.blt d N = true) (hx : ev e x = some (.pointer (some p))) (ht : tget T t = some i) (ha : isAggD i.desc = false) (hv : w.cell? p = some v) (k : QL P N C ops.toArray l ((d, v) :: e) Q) : QL P N C ops.toArray (⟨some d, .load t x, tt, ps, af, g⟩ :: l) e Q :=
  QL.step hg hd (yload hT hx ht ha hv) k
theorem QL.loadA [Cls C w] {d : Nat} {tt : TypeId} {ps : String} {af : Array Edge} {g : Option (Nat × Bool)} {t : TypeId} {x : Operand} {b off : Nat} {vs : List Value} {i : TI} (hT : OkTab P T) (hg : gate ops e g = some true) (hd : Nat.blt d N = true) (hx : ev e x = some (.pointer (some ⟨b, off, none⟩))) (ht : tget T t = some i) (ha : isAggD i.desc = true) (hv : Cells w b off vs) (hs : i.size = vs.length) (k : QL P N C ops.toArray l ((d, .agg vs.toArray) :: e) Q) : QL P N C ops.toArray (⟨some d, .load t x, tt, ps, af, g⟩ :: l) e Q :=
  QL.step hg hd (yloadAgg hT hx ht ha hs hv) k
theorem QL.index [Cls C w] {d : Nat} {tt : TypeId} {ps : String} {af : Array Edge} {g : Option (Nat × Bool)} {t : TypeId} {x y : Operand} {α : Type} {s : Nat} {enc : α → List Value} {a : Option Addr} {xs : List α} {n cap : Nat} {kk : IntKind} {i : Int} {ti ei : TI} {el : TypeId} {z : α} {w0 : World}
    (hT : OkTab P T) (hg : gate ops e g = some true) (hd : Nat.blt d N = true) (hx : ev e x = some (.slice a n cap)) (hy : ev e y = some (.int kk i)) (ht : tget T t = some ti) (htd : ti.desc = .slice el) (he : tget T el = some ei) (hs : ei.size = s)
    (R : Row s enc w0 a xs) (E : Ext w0 w) (hn : xs.length = n) (h0 : 0 ≤ i) (hz : xs[i.toNat]? = some z)
    (k : ∀ b off, Cells w b off (enc z) → QL P N C ops.toArray l ((d, .pointer (some ⟨b, off, none⟩)) :: e) Q) : QL P N C ops.toArray (⟨some d, .indexAddr t x y, tt, ps, af, g⟩ :: l) e Q := by
  obtain ⟨b, off, hc, hy'⟩ := yindex (P := P) (dd := some d) (t := t) (tt := tt) (x := x) (y := y) (ps := ps) (af := af) (g := g) hT hx hy ht htd he hs R E hn h0 hz
  exact QL.step hg hd hy'.in (k b off hc)

theorem SL.pev {d : Nat} {tt : TypeId} {ps : String} {af : Array Edge} {g : Option (Nat × Bool)} {op : Op} {v : Value} (hT : OkTab P T) (hg : gate ops e g = some true) (hd : Nat.blt d N = true) (h : pev T e op = some v) (k : SL P N ops.toArray l ((d, v) :: e) w K) : SL P N ops.toArray (⟨some d, op, tt, ps, af, g⟩ :: l) e w K :=
  SL.step hg hd (pev_yields hT h).in k

theorem SL.add {d : Nat} {tt : TypeId} {ps : String} {af : Array Edge} {g : Option (Nat × Bool)} {t ty : TypeId} {x y : Operand} {a b : Int} (hg : gate ops e g = some true) (hd : Nat.blt d N = true) (hx : ev e x = some (.int .i64 a)) (hy : ev e y = some (.int .i64 b)) (h : inI64 (a + b)) (k : SL P N ops.toArray l ((d, .int .i64 (a + b)) :: e) w K) : SL P N ops.toArray (⟨some d, .binOp .add t x y ty, tt, ps, af, g⟩ :: l) e w K :=
  SL.step hg hd (yadd hx hy h).in k

theorem SL.sub {d : Nat} {tt : TypeId} {ps : String} {af : Array Edge} {g : Option (Nat × Bool)} {t ty : TypeId} {x y : Operand} {a b : Int} (hg : gate ops e g = some true) (hd : Nat.blt d N = true) (hx : ev e x = some (.int .i64 a)) (hy : ev e y = some (.int .i64 b)) (h : inI64 (a - b)) (k : SL P N ops.toArray l ((d, .int .i64 (a - b)) :: e) w K) : SL P N ops.toArray (⟨some d, .binOp .sub t x y ty, tt, ps, af, g⟩ :: l) e w K :=
  SL.step hg hd (ysub hx hy h).in k

theorem SL.mul {d : Nat} {tt : TypeId} {ps : String} {af : Array Edge} {g : Option (Nat × Bool)} {t ty : TypeId} {x y : Operand} {a b : Int} (hg : gate ops e g = some true) (hd : Nat.blt d N = true) (hx : ev e x = some (.int .i64 a)) (hy : ev e y = some (.int .i64 b)) (h : inI64 (a * b)) (k : SL P N ops.toArray l ((d, .int .i64 (a * b)) :: e) w K) : SL P N ops.toArray (⟨some d, .binOp .mul t x y ty, tt, ps, af, g⟩ :: l) e w K :=
  SL.step hg hd (ymul hx hy h).in k

theorem SL.quo {d : Nat} {tt : TypeId} {ps : String} {af : Array Edge} {g : Option (Nat × Bool)} {t ty : TypeId} {x y : Operand} {a b : Int} (hg : gate ops e g = some true) (hd : Nat.blt d N = true) (hx : ev e x = some (.int .i64 a)) (hy : ev e y = some (.int .i64 b)) (h : 0 ≤ a ∧ a ≤ 9223372036854775807 ∧ 1 ≤ b) (k : SL P N ops.toArray l ((d, .int .i64 (a / b)) :: e) w K) : SL P N ops.toArray (⟨some d, .binOp .quo t x y ty, tt, ps, af, g⟩ :: l) e w K :=
  SL.step hg hd (yquo hx hy h).in k

theorem SL.rem {d : Nat} {tt : TypeId} {ps : String} {af : Array Edge} {g : Option (Nat × Bool)} {t ty : TypeId} {x y : Operand} {a b : Int} (hg : gate ops e g = some true) (hd : Nat.blt d N = true) (hx : ev e x = some (.int .i64 a)) (hy : ev e y = some (.int .i64 b)) (h : 0 ≤ a ∧ 1 ≤ b) (k : SL P N ops.toArray l ((d, .int .i64 (a % b)) :: e) w K) : SL P N ops.toArray (⟨some d, .binOp .rem t x y ty, tt, ps, af, g⟩ :: l) e w K :=
  SL.step hg hd (yrem hx hy h).in k

theorem SL.remw {d : Nat} {tt : TypeId} {ps : String} {af : Array Edge} {g : Option (Nat × Bool)} {t ty : TypeId} {x y : Operand} {a b : Int} (hg : gate ops e g = some true) (hd : Nat.blt d N = true) (hx : ev e x = some (.int .i64 a)) (hy : ev e y = some (.int .i64 b)) (h : b ≠ 0) (k : SL P N ops.toArray l ((d, .int .i64 (a.tmod b)) :: e) w K) : SL P N ops.toArray (⟨some d, .binOp .rem t x y ty, tt, ps, af, g⟩ :: l) e w K :=
  SL.step hg hd (yremw hx hy h).in k

theorem SL.quow {d : Nat} {tt : TypeId} {ps : String} {af : Array Edge} {g : Option (Nat × Bool)} {t ty : TypeId} {x y : Operand} {a b : Int} (hg : gate ops e g = some true) (hd : Nat.blt d N = true) (hx : ev e x = some (.int .i64 a)) (hy : ev e y = some (.int .i64 b)) (h : inI64 a ∧ 1 ≤ b) (k : SL P N ops.toArray l ((d, .int .i64 (a.tdiv b)) :: e) w K) : SL P N ops.toArray (⟨some d, .binOp .quo t x y ty, tt, ps, af, g⟩ :: l) e w K :=
  SL.step hg hd (yquow hx hy h).in k

theorem SL.load {d : Nat} {tt : TypeId} {ps : String} {af : Array Edge} {g : Option (Nat × Bool)} {t : TypeId} {x : Operand} {p : Addr} {v : Value} {i : TI} (hT : OkTab P T) (hg : gate ops e g = some true) (hd : Nat.blt d N = true) (hx : ev e x = some (.pointer (some p))) (ht : tget T t = some i) (ha : isAggD i.desc = false) (hv : w.cell? p = some v) (k : SL P N ops.toArray l ((d, v) :: e) w K) : SL P N ops.toArray (⟨some d, .load t x, tt, ps, af, g⟩ :: l) e w K :=
  SL.step hg hd (yload hT hx ht ha hv) k
theorem SL.loadA {d : Nat} {tt : TypeId} {ps : String} {af : Array Edge} {g : Option (Nat × Bool)} {t : TypeId} {x : Operand} {b off : Nat} {vs : List Value} {i : TI} (hT : OkTab P T) (hg : gate ops e g = some true) (hd : Nat.blt d N = true) (hx : ev e x = some (.pointer (some ⟨b, off, none⟩))) (ht : tget T t = some i) (ha : isAggD i.desc = true) (hv : Cells w b off vs) (hs : i.size = vs.length) (k : SL P N ops.toArray l ((d, .agg vs.toArray) :: e) w K) : SL P N ops.toArray (⟨some d, .load t x, tt, ps, af, g⟩ :: l) e w K :=
  SL.step hg hd (yloadAgg hT hx ht ha hs hv) k
theorem SL.index {d : Nat} {tt : TypeId} {ps : String} {af : Array Edge} {g : Option (Nat × Bool)} {t : TypeId} {x y : Operand} {α : Type} {s : Nat} {enc : α → List Value} {a : Option Addr} {xs : List α} {n cap : Nat} {kk : IntKind} {i : Int} {ti ei : TI} {el : TypeId} {z : α} {w0 : World}
    (hT : OkTab P T) (hg : gate ops e g = some true) (hd : Nat.blt d N = true) (hx : ev e x = some (.slice a n cap)) (hy : ev e y = some (.int kk i)) (ht : tget T t = some ti) (htd : ti.desc = .slice el) (he : tget T el = some ei) (hs : ei.size = s)
    (R : Row s enc w0 a xs) (E : Ext w0 w) (hn : xs.length = n) (h0 : 0 ≤ i) (hz : xs[i.toNat]? = some z)
    (k : ∀ b off, Cells w b off (enc z) → SL P N ops.toArray l ((d, .pointer (some ⟨b, off, none⟩)) :: e) w K) : SL P N ops.toArray (⟨some d, .indexAddr t x y, tt, ps, af, g⟩ :: l) e w K := by
  obtain ⟨b, off, hc, hy'⟩ := yindex (P := P) (dd := some d) (t := t) (tt := tt) (x := x) (y := y) (ps := ps) (af := af) (g := g) hT hx hy ht htd he hs R E hn h0 hz
  exact SL.step hg hd hy'.in (k b off hc)

end Go.Lt
