/- Structs: boxed, built, handed back, held against each other. Generic over the program. No conditions. -/
import Derived.Test.YtfkdlepemiepdaaLtLoops
namespace Go.Lt
open Go.RowKit
set_option linter.unusedVariables false
set_option linter.unusedSimpArgs false

/-- Where the fields lie. -/
def places (T : Tab) : List Field → Option (List (Nat × Nat))
  | [] => some []
  | f :: r =>
    (match tget T f.type with
     | some i =>
       (match places T r with
        | some l => some ((f.offset, i.size) :: l)
        | none => none)
     | none => none)

section runs
variable {P : Program} {T : Tab}
theorem run_places (hT : OkTab P T) : ∀ (fs : List Field) (l : List (Nat × Nat)), places T fs = some l → ∀ w, (fs.mapM (m := Sem) (fun f => do pure (f.offset, ← sizeOf f.type))).run P w = .ok l w
  | [], l, h, w => by simp only [places, Option.some.injEq] at h; subst h; rfl
  | f :: r, l, h, w => by
    unfold places at h
    split at h
    · rename_i i hi
      split at h
      · rename_i l' hl
        simp only [Option.some.injEq] at h; subst h
        have h1 := run_sizeOf' (hT.at hi) w
        have h2 := run_places hT r l' hl w
        simp only [List.mapM_cons, Sem.run_bind, h1, Result.andThen_ok, Sem.run_pure, h2]
      · cases h
    · cases h


/-- What the parts leave. -/
def fillL (pl : List (Nat × Nat)) : List Value → List (Nat × Value) → List Value
  | L, [] => L
  | L, (i, v) :: r => fillL pl (L.take (pl.getD i (0, 0)).1 ++ v.cells.toList ++ L.drop ((pl.getD i (0, 0)).1 + v.cells.size)) r

theorem run_build (hT : OkTab P T) {t : TypeId} {ti : TI} {fs : Array Field} {pl : List (Nat × Nat)} {pvs : List (Nat × Value)} {cs : List Value} (ht : tget T t = some ti) (htd : ti.desc = .struct fs) (hp : places T fs.toList = some pl)
    (hfill : Instr.fill (fun i : Nat => pl[i]?) ti.zero.cells pvs = some cs.toArray) (w : World) : (Instr.build t ⟨pvs⟩).run P w = .ok (.agg cs.toArray) w := by
  have h1 := run_underlying' (hT.at ht); rw [htd] at h1
  have h3 := run_zeroValue' (hT.at ht)
  have h4 := run_places hT fs.toList pl hp w
  have h5 : (fs.mapM (m := Sem) (fun f => do pure (f.offset, ← sizeOf f.type))).run P w = .ok pl.toArray w := by
    rw [Array.mapM_eq_mapM_toList, map_eq_pure_bind, Sem.run_bind, run_places hT fs.toList pl hp w]
    rfl
  unfold Instr.build
  simp only [Sem.run_bind, h3, Result.andThen_ok, Sem.run_pure, h1, h5]
  have h6 : (fun x => pl.toArray[x]?) = (fun i : Nat => pl[i]?) := by funext i; simp
  rw [h6, hfill]
  rfl
end runs

section rules
variable {P : Program} {N : Nat} {e : Env} {w : World} {Q : Exit → Act → World → Prop} {ops : List Oper} {l : List Oper} {T : Tab}
  {d : Nat} {tt : TypeId} {ps : String} {af : Array Edge} {g : Option (Nat × Bool)} {t : TypeId} {ti : TI}

/-- A new variable with a value in it. -/
theorem WL.box {x : Operand} {v : Value} (hg : gate ops e g = some true) (hd : Nat.blt d N = true) (hx : ev e x = some v)
    (k : ∀ gb w', w'.heap[gb]? = some (.cells v.cells t (0, 0)) → w.heap.size ≤ gb → Cells w' gb 0 v.cells.toList → Ext w w' → WL P N ops.toArray l ((d, .pointer (some ⟨gb, 0, none⟩)) :: e) w' Q) :
    WL P N ops.toArray (⟨some d, .box t x, tt, ps, af, g⟩ :: l) e w Q := by
  refine WL.eff (v := .pointer (some ⟨w.heap.size, 0, none⟩)) (w' := fun m => fresh (at' w m) v.cells t) hg hd ?_ (fun m => k _ _ (fresh_block (at' w m) _ t) (Nat.le_refl _) (fresh_cells (at' w m) _ t) ((Ext.refl w).at m |>.trans (fresh_ext _ _ _)))
  intro ρ hρ m
  simp [execOp, hρ _ _ hx, Instr.box, newVar, newRow, newObj, Sem.run, fresh]
  rfl

theorem ybuild {C : World → Prop} (hT : OkTab P T) {fs : Array Field} {pl : List (Nat × Nat)} {parts : List (Nat × Operand)} {pvs : List (Nat × Value)} {cs : List Value} {dd : Option Tmp} (ht : tget T t = some ti) (htd : ti.desc = .struct fs) (hpl : places T fs.toList = some pl)
    (hp : evp e parts = some pvs) (hcs : fillL pl ti.zero.cells.toList pvs = cs) (hfill : Instr.fill (fun i : Nat => pl[i]?) ti.zero.cells pvs = some cs.toArray) : YieldsIn P e C ⟨dd, .build t ⟨parts⟩, tt, ps, af, g⟩ (.agg cs.toArray) := by
  intro ρ hρ w' _
  have h1 := run_build hT ht htd hpl hfill w'
  have h4 := evp_map hρ hp
  simp [execOp, h4, h1]
theorem WL.build (hT : OkTab P T) {fs : Array Field} {pl : List (Nat × Nat)} {parts : List (Nat × Operand)} {pvs : List (Nat × Value)} {cs : List Value} (hg : gate ops e g = some true) (hd : Nat.blt d N = true) (ht : tget T t = some ti) (htd : ti.desc = .struct fs) (hpl : places T fs.toList = some pl)
    (hp : evp e parts = some pvs) (hcs : fillL pl ti.zero.cells.toList pvs = cs) (hfill : Instr.fill (fun i : Nat => pl[i]?) ti.zero.cells pvs = some cs.toArray)
    (k : WL P N ops.toArray l ((d, .agg cs.toArray) :: e) w Q) : WL P N ops.toArray (⟨some d, .build t ⟨parts⟩, tt, ps, af, g⟩ :: l) e w Q :=
  WL.step hg hd (ybuild hT ht htd hpl hp hcs hfill) k
theorem QL.build {C : World → Prop} (hT : OkTab P T) {fs : Array Field} {pl : List (Nat × Nat)} {parts : List (Nat × Operand)} {pvs : List (Nat × Value)} {cs : List Value} (hg : gate ops e g = some true) (hd : Nat.blt d N = true) (ht : tget T t = some ti) (htd : ti.desc = .struct fs) (hpl : places T fs.toList = some pl)
    (hp : evp e parts = some pvs) (hcs : fillL pl ti.zero.cells.toList pvs = cs) (hfill : Instr.fill (fun i : Nat => pl[i]?) ti.zero.cells pvs = some cs.toArray)
    (k : QL P N C ops.toArray l ((d, .agg cs.toArray) :: e) Q) : QL P N C ops.toArray (⟨some d, .build t ⟨parts⟩, tt, ps, af, g⟩ :: l) e Q :=
  QL.step hg hd (ybuild hT ht htd hpl hp hcs hfill) k

/-- What a store leaves as it was. -/
theorem Upd.heap {B gb : Nat} {w w' : World} {x : Obj} (hU : Upd B (some ⟨gb, 0, none⟩) w w') {g : Nat} (h : w.heap[g]? = some x) (hne : g ≠ gb) : w'.heap[g]? = some x := by
  have hlt := (Array.getElem?_eq_some_iff.1 h).1
  rw [← h]
  exact hU.grown.block g hlt (by simp [blk]; exact hne)
theorem Ext.heap {w w' : World} (h : Ext w w') {g : Nat} {x : Obj} (hx : w.heap[g]? = some x) : w'.heap[g]? = some x := by
  rw [h.block g (Array.getElem?_eq_some_iff.1 hx).1]; exact hx
theorem heap_lt {w : World} {g : Nat} {x : Obj} (hx : w.heap[g]? = some x) : g < w.heap.size := (Array.getElem?_eq_some_iff.1 hx).1
theorem cells_heap {w : World} {gb : Nat} {cs : Array Value} {el : TypeId} (h : w.heap[gb]? = some (.cells cs el (0, 0))) : Cells w gb 0 cs.toList := by
  refine cells_of fun j u hu => ?_
  simp [World.cell?, h]
  simpa using hu

theorem Z.bodyC {fn : Func} {R : Value → World → Prop} {b ty : Nat} {vs : List Value} {t : Nat} (hT : OkTab P T) (hr : fn.results = #[.cell t ty]) (hv : get e t = some (.pointer (some ⟨b, 0, none⟩)))
    (ht : tget T ty = some ti) (ha : isAggD ti.desc = true) (hs : ti.size = vs.length) (hc : Cells w b 0 vs) (hR : ∀ m, R (.agg vs.toArray) (at' w m)) :
    Z N (bodyPost P fn fun x w' => ∃ v, x = .returned v ∧ R v w') .ret e w := ⟨fun a m hf => by
  have h1 := run_isAgg' (hT.at ht) (at' w m); rw [ha] at h1
  have h3 := run_sizeOf' (hT.at ht) (at' w m); rw [hs] at h3
  have h2 := run_loadCellsFrom (P := P) (acc := #[]) (off := 0) (i := 0) (b := b) (hc.ext ((Ext.refl w).at m))
  refine bodyPost_ret (v := .agg vs.toArray) ?_ hf.defers ⟨_, rfl, hR m⟩
  have h4 := hf.slots _ _ hv
  simp [results, hr, Array.getD_eq_getD_getElem?, h4, asAddr, loadVar, h1, h3, loadCells, h2]⟩
end rules
end Go.Lt
