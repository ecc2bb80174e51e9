/- Arrays that lie in a block, masks, structs of six; regions walked along a tree, where a block of variables stays as it is; maps held against nil, in interfaces, and cloned. Generic over the program. No conditions. -/
import Derived.Test.YtfkdlepemiepdaaLtMore2
import Derived.Test.YtfkdlepemiepdaaLtLift
import Derived.Lib.SmallJoins
import Derived.Test.YtfkdlepemiepdaaLtTreeX
import Derived.Test.YtfkdlepemiepdaaLtPtr
import Derived.Laws.Externs
import Derived.MapKept
namespace Go.Lt
open Go.RowKit
set_option linter.unusedVariables false
set_option linter.unusedSimpArgs false

section arr
variable {P : Program} {T : Tab} {e : Env} {dd : Option Tmp} {t tt ty : TypeId} {x y : Operand} {ps : String} {af : Array Edge} {g : Option (Nat × Bool)}
theorem yindexA (hT : OkTab P T) {b off n s : Nat} {k : IntKind} {i : Int} {ti ei : TI} {el : TypeId}
    (hx : ev e x = some (.pointer (some ⟨b, off, none⟩))) (hy : ev e y = some (.int k i)) (ht : tget T t = some ti) (hd : ti.desc = .array n el) (he : tget T el = some ei) (hs : ei.size = s)
    (h0 : 0 ≤ i ∧ i < n) : Yields P e ⟨dd, .indexAddr t x y, tt, ps, af, g⟩ (.pointer (some ⟨b, off + i.toNat * s, none⟩)) := by
  intro ρ hρ w'
  have h1 := run_underlying' (hT.at ht); rw [hd] at h1
  have h2 := run_sizeOf' (hT.at he); rw [hs] at h2
  simp [execOp, hρ _ _ hx, hρ _ _ hy, Instr.indexAt, Instr.sureAddr, asIntOf, h1, h2, h0, Addr_add_none]
theorem mask_le (a : Int) : 0 ≤ IntKind.i64.wrap (BitVec.ofInt IntKind.i64.bits a &&& BitVec.ofInt IntKind.i64.bits 1023).toNat ∧ IntKind.i64.wrap (BitVec.ofInt IntKind.i64.bits a &&& BitVec.ofInt IntKind.i64.bits 1023).toNat ≤ 1023 := by
  show 0 ≤ IntKind.i64.wrap (BitVec.ofInt 64 a &&& BitVec.ofInt 64 1023).toNat ∧ IntKind.i64.wrap (BitVec.ofInt 64 a &&& BitVec.ofInt 64 1023).toNat ≤ 1023
  have h : (BitVec.ofInt 64 a &&& BitVec.ofInt 64 1023).toNat ≤ 1023 := by
    rw [BitVec.toNat_and]; exact Nat.le_trans Nat.and_le_right (by decide)
  rw [IntWalk.i64_in _ (by omega)]
  omega
theorem ymask {a : Int} (hx : ev e x = some (.int .i64 a)) (hy : ev e y = some (.int .i64 1023)) : ∃ r : Int, 0 ≤ r ∧ r ≤ 1023 ∧ Yields P e ⟨dd, .binOp .and t x y ty, tt, ps, af, g⟩ (.int .i64 r) :=
  ⟨_, (mask_le a).1, (mask_le a).2, Yields.bin (P := P) (d := dd) (op := .and) (t := t) (ty := ty) (tt := tt) (ps := ps) (af := af) (g := g) hx hy (v := .int .i64 (IntKind.i64.wrap (BitVec.ofInt IntKind.i64.bits a &&& BitVec.ofInt IntKind.i64.bits 1023).toNat)) rfl⟩
end arr
section rules
variable {P : Program} {N : Nat} {e : Env} {w : World} {Q : Exit → Act → World → Prop} {C : World → Prop} {ops : List Oper} {l : List Oper} {T : Tab}
  {d : Nat} {tt t ty : TypeId} {ps : String} {af : Array Edge} {g : Option (Nat × Bool)} {x y : Operand}
theorem WL.indexA (hT : OkTab P T) {b off n s : Nat} {k : IntKind} {i : Int} {ti ei : TI} {el : TypeId} (hg : gate ops e g = some true) (hd : Nat.blt d N = true)
    (hx : ev e x = some (.pointer (some ⟨b, off, none⟩))) (hy : ev e y = some (.int k i)) (ht : tget T t = some ti) (htd : ti.desc = .array n el) (he : tget T el = some ei) (hs : ei.size = s) (h0 : 0 ≤ i ∧ i < n)
    (k : WL P N ops.toArray l ((d, .pointer (some ⟨b, off + i.toNat * s, none⟩)) :: e) w Q) : WL P N ops.toArray (⟨some d, .indexAddr t x y, tt, ps, af, g⟩ :: l) e w Q := WL.step hg hd (yindexA hT hx hy ht htd he hs h0).in k
theorem QL.indexA (hT : OkTab P T) {b off n s : Nat} {k : IntKind} {i : Int} {ti ei : TI} {el : TypeId} (hg : gate ops e g = some true) (hd : Nat.blt d N = true)
    (hx : ev e x = some (.pointer (some ⟨b, off, none⟩))) (hy : ev e y = some (.int k i)) (ht : tget T t = some ti) (htd : ti.desc = .array n el) (he : tget T el = some ei) (hs : ei.size = s) (h0 : 0 ≤ i ∧ i < n)
    (k : QL P N C ops.toArray l ((d, .pointer (some ⟨b, off + i.toNat * s, none⟩)) :: e) Q) : QL P N C ops.toArray (⟨some d, .indexAddr t x y, tt, ps, af, g⟩ :: l) e Q := QL.step hg hd (yindexA hT hx hy ht htd he hs h0).in k
theorem WL.mask {a : Int} (hg : gate ops e g = some true) (hd : Nat.blt d N = true) (hx : ev e x = some (.int .i64 a)) (hy : ev e y = some (.int .i64 1023))
    (k : ∀ r : Int, 0 ≤ r → r ≤ 1023 → WL P N ops.toArray l ((d, .int .i64 r) :: e) w Q) : WL P N ops.toArray (⟨some d, .binOp .and t x y ty, tt, ps, af, g⟩ :: l) e w Q := by
  obtain ⟨r, h0, h1, hy'⟩ := ymask (P := P) (dd := some d) (t := t) (ty := ty) (tt := tt) (ps := ps) (af := af) (g := g) hx hy
  exact WL.step hg hd hy'.in (k r h0 h1)
theorem QL.mask {a : Int} (hg : gate ops e g = some true) (hd : Nat.blt d N = true) (hx : ev e x = some (.int .i64 a)) (hy : ev e y = some (.int .i64 1023))
    (k : ∀ r : Int, 0 ≤ r → r ≤ 1023 → QL P N C ops.toArray l ((d, .int .i64 r) :: e) Q) : QL P N C ops.toArray (⟨some d, .binOp .and t x y ty, tt, ps, af, g⟩ :: l) e Q := by
  obtain ⟨r, h0, h1, hy'⟩ := ymask (P := P) (dd := some d) (t := t) (ty := ty) (tt := tt) (ps := ps) (af := af) (g := g) hx hy
  exact QL.step hg hd hy'.in (k r h0 h1)
end rules

section lift
variable {H : Type} {enc : TypeId × Value → H} {P : Program} {w : World} {base : Nat} {spare : Nat → Bool} {held : Bool}
/-- An array of three numbers, opened. -/
theorem open_arr3 {r : Reach} {b0 : Nat} {t el : TypeId} {v : Value} {d : DataW H} {p : List MemPlace} (ht : P.underlying t = some (.array 3 el)) (he : P.underlying el = some (.int .i64)) (hC : P.cellsOf t = 3) (hce : P.cellsOf el = 1)
    (hv : Value.okWide P w r b0 t v) (h : DataW.Trod enc P w base spare held t v d p) :
    ∃ n0 n1 n2 : Int, v = .agg #[.int .i64 n0, .int .i64 n1, .int .i64 n2] := by
  unfold Value.okWide at hv
  rw [ht] at hv
  obtain ⟨cs, rfl, hsz, _⟩ := hv
  obtain ⟨c0, c1, c2, rfl⟩ := Go.Joins.array3 (hsz.trans hC)
  obtain ⟨fuel, hf⟩ := h
  obtain ⟨xs, m, _, _, _, hl, hx⟩ := DataW.trod_array ht hf
  rw [hce] at hx
  have get : ∀ i (hi : i < 3) (c : Value), (((Value.agg #[c0, c1, c2]).cells.toList.drop (i * 1)).take 1) = [c] → ∃ n : Int, c = .int .i64 n := by
    intro i hi c hc
    have h1 := hx i hi
    rw [hc] at h1
    obtain ⟨y, hy⟩ := getI xs (show i < xs.length by omega)
    rw [hy] at h1
    obtain ⟨n, hn, _⟩ := reads_int (P := P) he _ _ _ _ _ _ _ _ h1
    simp only [List.cons.injEq, and_true] at hn
    exact ⟨n, hn⟩
  obtain ⟨n0, rfl⟩ := get 0 (by decide) c0 rfl
  obtain ⟨n1, rfl⟩ := get 1 (by decide) c1 rfl
  obtain ⟨n2, rfl⟩ := get 2 (by decide) c2 rfl
  exact ⟨n0, n1, n2, rfl⟩
end lift
end Go.Lt
namespace Go.Lt
open Go.ChangeShapes Go.WideShapes Go.ChangeAt Go.RowKit Go.Deep
/-- A struct of six fields of one cell each. -/
theorem reads_six {P : Program} {e : TypeId} {f0 f1 f2 f3 f4 f5 : Field} {α0 α1 α2 α3 α4 α5 : Type} {e0 : α0 → List Value} {e1 : α1 → List Value} {e2 : α2 → List Value} {e3 : α3 → List Value} {e4 : α4 → List Value} {e5 : α5 → List Value}
    {k0 : World → α0 → Prop} {k1 : World → α1 → Prop} {k2 : World → α2 → Prop} {k3 : World → α3 → Prop} {k4 : World → α4 → Prop} {k5 : World → α5 → Prop}
    (ht : P.underlying e = some (.struct #[f0, f1, f2, f3, f4, f5])) (r0 : Reads P f0.type e0 k0) (r1 : Reads P f1.type e1 k1) (r2 : Reads P f2.type e2 k2) (r3 : Reads P f3.type e3 k3) (r4 : Reads P f4.type e4 k4) (r5 : Reads P f5.type e5 k5)
    (c : P.cellsOf e = 6) (o0 : f0.offset = 0) (o1 : f1.offset = 1) (o2 : f2.offset = 2) (o3 : f3.offset = 3) (o4 : f4.offset = 4) (o5 : f5.offset = 5)
    (c0 : P.cellsOf f0.type = 1) (c1 : P.cellsOf f1.type = 1) (c2 : P.cellsOf f2.type = 1) (c3 : P.cellsOf f3.type = 1) (c4 : P.cellsOf f4.type = 1) (c5 : P.cellsOf f5.type = 1) :
    Reads P e (fun x : α0 × α1 × α2 × α3 × α4 × α5 => e0 x.1 ++ (e1 x.2.1 ++ (e2 x.2.2.1 ++ (e3 x.2.2.2.1 ++ (e4 x.2.2.2.2.1 ++ e5 x.2.2.2.2.2)))))
      (fun w x => k0 w x.1 ∧ k1 w x.2.1 ∧ k2 w x.2.2.1 ∧ k3 w x.2.2.2.1 ∧ k4 w x.2.2.2.2.1 ∧ k5 w x.2.2.2.2.2) := by
  intro H en w base spare held fuel cs x h
  obtain ⟨xs, n, _, _, hl, hxl, hf⟩ := DataW.trod_struct ht h
  rw [c] at hl
  match xs, hxl, cs, hl with
  | [y0, y1, y2, y3, y4, y5], _, [v0, v1, v2, v3, v4, v5], _ =>
    have h0 := hf 0 f0 rfl
    have h1 := hf 1 f1 rfl
    have h2 := hf 2 f2 rfl
    have h3 := hf 3 f3 rfl
    have h4 := hf 4 f4 rfl
    have h5 := hf 5 f5 rfl
    rw [o0, c0] at h0
    rw [o1, c1] at h1
    rw [o2, c2] at h2
    rw [o3, c3] at h3
    rw [o4, c4] at h4
    rw [o5, c5] at h5
    obtain ⟨a0, g0, q0⟩ := r0 en w base spare held n _ _ h0
    obtain ⟨a1, g1, q1⟩ := r1 en w base spare held n _ _ h1
    obtain ⟨a2, g2, q2⟩ := r2 en w base spare held n _ _ h2
    obtain ⟨a3, g3, q3⟩ := r3 en w base spare held n _ _ h3
    obtain ⟨a4, g4, q4⟩ := r4 en w base spare held n _ _ h4
    obtain ⟨a5, g5, q5⟩ := r5 en w base spare held n _ _ h5
    refine ⟨(a0, a1, a2, a3, a4, a5), ?_, q0, q1, q2, q3, q4, q5⟩
    show [v0, v1, v2, v3, v4, v5] = e0 a0 ++ (e1 a1 ++ (e2 a2 ++ (e3 a3 ++ (e4 a4 ++ e5 a5))))
    rw [← g0, ← g1, ← g2, ← g3, ← g4, ← g5]; rfl
end Go.Lt
namespace Go.Lt
open Go.RowKit
set_option linter.unusedVariables false
set_option linter.unusedSimpArgs false

/-- The block g holds these cells. -/
abbrev CellC (g : Nat) (cs : Array Value) (t : Nat) (w : World) : Prop := w.heap[g]? = some (.cells cs t (0, 0))
section
variable {P : Program} {T : Tab} {N d : Nat} {e : Env} {w : World} {ops l : List Oper} {Kf : Act → Prop} {tt t ty ct : TypeId} {ps : String} {af : Array Edge} {g : Option (Nat × Bool)} {x y : Operand}
theorem FL.loadC {gb off : Nat} {cs : Array Value} {v : Value} {i : TI} (hT : OkTab P T) (hg : gate ops e g = some true) (hd : Nat.blt d N = true) (hx : ev e x = some (.pointer (some ⟨gb, off, none⟩))) (ht : tget T t = some i) (ha : isAggD i.desc = false) (hv : cs[off]? = some v)
    (k : FL P N ops.toArray (CellC gb cs ct) l ((d, v) :: e) w Kf) : FL P N ops.toArray (CellC gb cs ct) (⟨some d, .load t x, tt, ps, af, g⟩ :: l) e w Kf := by
  refine FL.step hg hd ?_ k
  intro ρ hρ w' hw'
  have h1 := run_isAgg' (hT.at ht); rw [ha] at h1
  have h2 : w'.cell? ⟨gb, off, none⟩ = some v := by
    have hc := cells_heap hw'
    have key : ∀ (l : List Value) (o q : Nat) (u : Value), Cells w' gb o l → l[q]? = some u → w'.cell? ⟨gb, o + q, none⟩ = some u := by
      intro l
      induction l with
      | nil => intro o q u _ h; simp at h
      | cons a r ih =>
        intro o q u hl h
        obtain ⟨h3, h4⟩ := hl
        cases q with
        | zero => simp at h; subst h; exact h3
        | succ q =>
          have := ih (o + 1) q u h4 (by simpa using h)
          rw [show o + (q + 1) = o + 1 + q by omega]; exact this
    have := key _ 0 off v hc (by simpa using hv)
    simpa using this
  simp [execOp, hρ _ _ hx, Instr.loadAt, Instr.sureAddr, loadVar, h1, h2]
end
end Go.Lt
namespace Go.Lt
open Go.RowKit
set_option linter.unusedVariables false
set_option linter.unusedSimpArgs false

section
variable {P : Program} {T : Tab} {N : Nat} {e : Env} {w : World} {Q : Exit → Act → World → Prop} {ops : List Oper} {l : List Oper}
  {d : Nat} {tt t ty kt et : TypeId} {ps : String} {af : Array Edge} {g : Option (Nat × Bool)} {x y : Operand} {i : TI} {dd : Option Tmp}
theorem yeqMapNil (hT : OkTab P T) {r : Nat} (hx : ev e x = some (.map (some r))) (hy : ev e y = some (.map none)) (ht : tget T t = some i) (hd : i.desc = .map kt et) : Yields P e ⟨dd, .binOp .eql t x y ty, tt, ps, af, g⟩ (.bool false) := by
  intro ρ hρ w
  have hu := run_underlying' (hT.at ht) w; rw [hd] at hu
  have h0 : (Op.equal t (.map (some r)) (.map none)).run P w = .ok false w := by
    unfold Op.equal
    rw [show Op.maxDepth = 9999 + 1 from rfl, Op.equalIn]
    simp only [Sem.run_bind, hu, Result.andThen_ok]
    simp
  have h1 : (eqGuard .eql t x y (.map (some r)) (.map none)).run P w = .ok () w := by simp [eqGuard]
  have h2 : (binOp .eql t (.map (some r)) (.map none)).run P w = .ok (.bool false) w := by simp [binOp, h0]
  simp [execOp, hρ _ _ hx, hρ _ _ hy, h1, h2]
theorem WL.eqMapNil (hT : OkTab P T) {r : Nat} (hg : gate ops e g = some true) (hd : Nat.blt d N = true) (hx : ev e x = some (.map (some r))) (hy : ev e y = some (.map none)) (ht : tget T t = some i) (htd : i.desc = .map kt et)
    (k : WL P N ops.toArray l ((d, .bool false) :: e) w Q) : WL P N ops.toArray (⟨some d, .binOp .eql t x y ty, tt, ps, af, g⟩ :: l) e w Q := WL.step hg hd (yeqMapNil hT hx hy ht htd).in k
theorem yifaceMap (hT : OkTab P T) {v : Value} (hx : ev e x = some v) (ht : tget T t = some i) (hd : i.desc = .map kt et) : Yields P e ⟨dd, .makeInterface t x, tt, ps, af, g⟩ (.iface t v) := by
  intro ρ hρ w
  have hu := run_underlying' (hT.at ht) w; rw [hd] at hu
  simp [execOp, hρ _ _ hx, Instr.makeInterface, hu]
theorem WL.ifaceMap (hT : OkTab P T) {v : Value} (hg : gate ops e g = some true) (hd : Nat.blt d N = true) (hx : ev e x = some v) (ht : tget T t = some i) (htd : i.desc = .map kt et)
    (k : WL P N ops.toArray l ((d, .iface t v) :: e) w Q) : WL P N ops.toArray (⟨some d, .makeInterface t x, tt, ps, af, g⟩ :: l) e w Q := WL.step hg hd (yifaceMap hT hx ht htd).in k
theorem yassertMap (hT : OkTab P T) {v : Value} {xt : TypeId} (hx : ev e x = some (.iface t v)) (ht : tget T t = some i) (hd : i.desc = .map kt et) : Yields P e ⟨dd, .typeAssert x xt t false, tt, ps, af, g⟩ v := by
  intro ρ hρ w
  have hu := run_underlying' (hT.at ht) w; rw [hd] at hu
  simp [execOp, hρ _ _ hx, Instr.typeAssert, hu]
theorem WL.assertMap (hT : OkTab P T) {v : Value} {xt : TypeId} (hg : gate ops e g = some true) (hd : Nat.blt d N = true) (hx : ev e x = some (.iface t v)) (ht : tget T t = some i) (htd : i.desc = .map kt et)
    (k : WL P N ops.toArray l ((d, v) :: e) w Q) : WL P N ops.toArray (⟨some d, .typeAssert x xt t false, tt, ps, af, g⟩ :: l) e w Q := WL.step hg hd (yassertMap hT hx ht htd).in k
/-- maps.clone: for it the model stands in. -/
theorem run_clone {w : World} {r : Nat} {es : Array MapEntry} {clock : Nat} (t : TypeId) (hb : w.heap[r]? = some (.map es clock)) :
    (Extern.MapsClone.clone #[.iface t (.map (some r))]).run P w = .ok (.iface t (.map (some w.heap.size))) (w.alloc (.map es clock)) := by
  have e : Extern.MapsClone.clone #[.iface t (.map (some r))] = (getObj r >>= fun o => match o with
      | .map entries clock => (newObj (.map entries clock) >>= fun n => pure (.iface t (.map (some n))))
      | _ => stuck "maps.clone: a map expected") := rfl
  rw [e]
  simp [MapKept.run_getObj_map hb, Result.andThen, go_sem]
theorem WL.mapClone {f : FuncId} {fn : Func} {r : Nat} {κ ν : Type} {kv : κ → Value} {vv : ν → Value} {L : List (κ × ν)} {ts : Array TypeId} (hf : P.funcs[f]? = some fn) (hname : (fn.name == "runtime.NumGoroutine") = false)
    (hb : fn.body.isNone = true) (hn : Extern.findNext fn = none) (he : Extern.find fn = some Extern.MapsClone.clone) (hg : gate ops e g = some true) (hd : Nat.blt d N = true) (hx : ev e x = some (.iface t (.map (some r)))) (hM : MapIs kv vv w r L)
    (k : ∀ r' w', MapIs kv vv w' r' L → w.heap.size ≤ r' → Ext w w' → WL P N ops.toArray l ((d, .iface t (.map (some r'))) :: e) w' Q) :
    WL P N ops.toArray (⟨some d, .call ⟨.value (.func f), ⟨[x]⟩, ts⟩, tt, ps, af, g⟩ :: l) e w Q := by
  obtain ⟨es, clock, h1, h2⟩ := hM
  refine WL.eff (v := .iface t (.map (some w.heap.size))) (w' := fun m => (at' w m).alloc (.map es clock)) hg hd ?_ (fun m => k _ _ ⟨es, clock, heap_alloc_new (at' w m) _, h2⟩ (Nat.le_refl _) ((Ext.refl w).at m |>.trans ((Below.refl _ _).alloc (Nat.le_refl _) _)))
  intro ρ hρ m
  have hc := run_callFunc_extern hf hname hb hn he #[.iface t (.map (some r))] (at' w m)
  rw [run_clone (w := at' w m) t h1] at hc
  have hρf : ρ (.func f) = .func (.func f) #[] #[] := hρ _ _ rfl
  simp [execOp, resolve, hρf, Deferred.ofValue, invoke, hρ _ _ hx, hc, Result.andThen]
end
end Go.Lt
