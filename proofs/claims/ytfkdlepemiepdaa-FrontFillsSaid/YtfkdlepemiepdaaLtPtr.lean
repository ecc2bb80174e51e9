/- Pointers: whether they are nil; fields of a struct of one's own that are written. Generic over the program. No conditions. -/
import Derived.Test.YtfkdlepemiepdaaLtMap
namespace Go.Lt
open Go.RowKit
set_option linter.unusedVariables false
set_option linter.unusedSimpArgs false

section
variable {P : Program} {T : Tab} {e : Env} {dd : Option Tmp} {tt ty t el : TypeId} {x y : Operand} {ps : String} {af : Array Edge} {g : Option (Nat × Bool)} {i : TI} {p : Option Addr} {a : Addr}
theorem ynilc (hx : ev e x = some (.pointer (some a))) : Yields P e ⟨dd, .nilCheck x, tt, ps, af, g⟩ (.pointer (some a)) := by
  intro ρ hρ w
  simp [execOp, hρ _ _ hx]
theorem run_eqPtrNil (hT : OkTab P T) (ht : tget T t = some i) (hd : i.desc = .pointer el) (w : World) : (Op.equal t (.pointer p) (.pointer none)).run P w = .ok (dec (p = none)) w := by
  have hu := run_underlying' (hT.at ht) w; rw [hd] at hu
  unfold Op.equal
  rw [show Op.maxDepth = 9999 + 1 from rfl, Op.equalIn]
  simp only [Sem.run_bind, hu, Result.andThen_ok]
  cases p with
  | none => simp [dec_true]
  | some q => simp [dec_false]
theorem yeqNil (hT : OkTab P T) (hx : ev e x = some (.pointer p)) (hy : ev e y = some (.pointer none)) (ht : tget T t = some i) (hd : i.desc = .pointer el) : Yields P e ⟨dd, .binOp .eql t x y ty, tt, ps, af, g⟩ (.bool (dec (p = none))) := by
  intro ρ hρ w
  have h1 : (eqGuard .eql t x y (.pointer p) (.pointer none)).run P w = .ok () w := by simp [eqGuard]
  have h2 : (binOp .eql t (.pointer p) (.pointer none)).run P w = .ok (.bool (dec (p = none))) w := by simp [binOp, run_eqPtrNil hT ht hd]
  simp [execOp, hρ _ _ hx, hρ _ _ hy, h1, h2]
theorem yneNil (hT : OkTab P T) (hx : ev e x = some (.pointer p)) (hy : ev e y = some (.pointer none)) (ht : tget T t = some i) (hd : i.desc = .pointer el) : Yields P e ⟨dd, .binOp .neq t x y ty, tt, ps, af, g⟩ (.bool (dec (p ≠ none))) := by
  intro ρ hρ w
  have h1 : (eqGuard .neq t x y (.pointer p) (.pointer none)).run P w = .ok () w := by simp [eqGuard]
  have h3 : (!dec (p = none)) = dec (p ≠ none) := by
    by_cases hh : p = none
    · rw [dec_true hh, dec_false (fun h => h hh)]; rfl
    · rw [dec_false hh, dec_true hh]; rfl
  have h2 : (binOp .neq t (.pointer p) (.pointer none)).run P w = .ok (.bool (dec (p ≠ none))) w := by simp [binOp, run_eqPtrNil hT ht hd, h3]
  simp [execOp, hρ _ _ hx, hρ _ _ hy, h1, h2]
end

section rules
variable {P : Program} {N : Nat} {e : Env} {w : World} {Q : Exit → Act → World → Prop} {ops : List Oper} {l : List Oper} {T : Tab} {C : World → Prop} {Kf : Act → Prop}
  {d : Nat} {tt ty t el : TypeId} {ps : String} {af : Array Edge} {g : Option (Nat × Bool)} {x y : Operand} {i : TI} {p : Option Addr} {a : Addr}
theorem WL.nilc (hg : gate ops e g = some true) (hd : Nat.blt d N = true) (hx : ev e x = some (.pointer (some a))) (k : WL P N ops.toArray l ((d, .pointer (some a)) :: e) w Q) : WL P N ops.toArray (⟨some d, .nilCheck x, tt, ps, af, g⟩ :: l) e w Q := WL.step hg hd (ynilc hx).in k
theorem QL.nilc (hg : gate ops e g = some true) (hd : Nat.blt d N = true) (hx : ev e x = some (.pointer (some a))) (k : QL P N C ops.toArray l ((d, .pointer (some a)) :: e) Q) : QL P N C ops.toArray (⟨some d, .nilCheck x, tt, ps, af, g⟩ :: l) e Q := QL.step hg hd (ynilc hx).in k
theorem FL.nilc (hg : gate ops e g = some true) (hd : Nat.blt d N = true) (hx : ev e x = some (.pointer (some a))) (k : FL P N ops.toArray C l ((d, .pointer (some a)) :: e) w Kf) : FL P N ops.toArray C (⟨some d, .nilCheck x, tt, ps, af, g⟩ :: l) e w Kf := FL.step hg hd (ynilc hx).in k
theorem WL.eqNil (hT : OkTab P T) (hg : gate ops e g = some true) (hd : Nat.blt d N = true) (hx : ev e x = some (.pointer p)) (hy : ev e y = some (.pointer none)) (ht : tget T t = some i) (htd : i.desc = .pointer el) (k : WL P N ops.toArray l ((d, .bool (dec (p = none))) :: e) w Q) : WL P N ops.toArray (⟨some d, .binOp .eql t x y ty, tt, ps, af, g⟩ :: l) e w Q := WL.step hg hd (yeqNil hT hx hy ht htd).in k
theorem WL.neNil (hT : OkTab P T) (hg : gate ops e g = some true) (hd : Nat.blt d N = true) (hx : ev e x = some (.pointer p)) (hy : ev e y = some (.pointer none)) (ht : tget T t = some i) (htd : i.desc = .pointer el) (k : WL P N ops.toArray l ((d, .bool (dec (p ≠ none))) :: e) w Q) : WL P N ops.toArray (⟨some d, .binOp .neq t x y ty, tt, ps, af, g⟩ :: l) e w Q := WL.step hg hd (yneNil hT hx hy ht htd).in k
theorem QL.eqNil (hT : OkTab P T) (hg : gate ops e g = some true) (hd : Nat.blt d N = true) (hx : ev e x = some (.pointer p)) (hy : ev e y = some (.pointer none)) (ht : tget T t = some i) (htd : i.desc = .pointer el) (k : QL P N C ops.toArray l ((d, .bool (dec (p = none))) :: e) Q) : QL P N C ops.toArray (⟨some d, .binOp .eql t x y ty, tt, ps, af, g⟩ :: l) e Q := QL.step hg hd (yeqNil hT hx hy ht htd).in k
theorem QL.neNil (hT : OkTab P T) (hg : gate ops e g = some true) (hd : Nat.blt d N = true) (hx : ev e x = some (.pointer p)) (hy : ev e y = some (.pointer none)) (ht : tget T t = some i) (htd : i.desc = .pointer el) (k : QL P N C ops.toArray l ((d, .bool (dec (p ≠ none))) :: e) Q) : QL P N C ops.toArray (⟨some d, .binOp .neq t x y ty, tt, ps, af, g⟩ :: l) e Q := QL.step hg hd (yneNil hT hx hy ht htd).in k

theorem WL.neNilS {q : Addr} (hT : OkTab P T) (hg : gate ops e g = some true) (hd : Nat.blt d N = true) (hx : ev e x = some (.pointer (some q))) (hy : ev e y = some (.pointer none)) (ht : tget T t = some i) (htd : i.desc = .pointer el) (k : WL P N ops.toArray l ((d, .bool true) :: e) w Q) : WL P N ops.toArray (⟨some d, .binOp .neq t x y ty, tt, ps, af, g⟩ :: l) e w Q := WL.neNil hT hg hd hx hy ht htd (by rw [dec_true (fun h => by cases h)]; exact k)
theorem WL.eqNilS {q : Addr} (hT : OkTab P T) (hg : gate ops e g = some true) (hd : Nat.blt d N = true) (hx : ev e x = some (.pointer (some q))) (hy : ev e y = some (.pointer none)) (ht : tget T t = some i) (htd : i.desc = .pointer el) (k : WL P N ops.toArray l ((d, .bool false) :: e) w Q) : WL P N ops.toArray (⟨some d, .binOp .eql t x y ty, tt, ps, af, g⟩ :: l) e w Q := WL.eqNil hT hg hd hx hy ht htd (by rw [dec_false (fun h => by cases h)]; exact k)

/-- A store of a plain value into a field of a variable of one's own. -/
theorem WL.storeF {gb off : Nat} {v : Value} {cur : List Value} {et : TypeId} {w0 wo : World} (hT : OkTab P T) (hg : gate ops e g = some true)
    (hx : ev e x = some (.pointer (some ⟨gb, off, none⟩))) (hy : ev e y = some v) (ht : tget T t = some i)
    (hb : wo.heap[gb]? = some (.cells cur.toArray et (0, 0))) (hwo : Ext wo w) (hs : v.cells = #[v]) (hs1 : i.size = 1) (hoff : Nat.blt off cur.length = true) (h1 : v.oneCell' = true) (hX : Ext w0 w) (hB : w0.heap.size ≤ gb)
    (k : ∀ w', w'.heap[gb]? = some (.cells (cur.set off v).toArray et (0, 0)) → Ext w0 w' → Upd gb (some ⟨gb, 0, none⟩) w w' → WL P N ops.toArray l e w' Q) :
    WL P N ops.toArray (⟨none, .store t x y, tt, ps, af, g⟩ :: l) e w Q := by
  have hof : off < cur.length := by simpa [Nat.blt_eq] using hoff
  have hbw : w.heap[gb]? = some (.cells cur.toArray et (0, 0)) := by rw [hwo.block gb (Array.getElem?_eq_some_iff.1 hb).1]; exact hb
  have hcur : (cur.toArray.toList.take off ++ v.cells.toList ++ cur.toArray.toList.drop (off + v.cells.size)).toArray = (cur.set off v).toArray := by
    rw [hs]
    simp only [List.size_toArray, List.length_cons, List.length_nil]
    rw [List.set_eq_take_append_cons_drop, if_pos hof]
    simp
  refine WL.effN (w' := fun m => (at' w m).setRow gb (cur.set off v).toArray) hg ?_ (fun m => ?_)
  · intro ρ hρ m
    have hr := run_storeVar' (hT.at ht) gb off et cur.toArray (at' w m) v hbw (by rw [hs, hs1]; rfl) (by rw [hs]; simp; omega) (fun u hu => by rw [hs] at hu; simp at hu; subst hu; exact h1)
    rw [hcur] at hr
    simp [execOp, hρ _ _ hx, hρ _ _ hy, Instr.storeAt, Instr.sureAddr, hr]
  · have hU : Upd gb (some ⟨gb, 0, none⟩) w ((at' w m).setRow gb (cur.set off v).toArray) :=
      ⟨⟨rfl, rfl, rfl, by simp [World.setRow], fun k hk hne => setRow_other (at' w m) gb k _ (fun hh => hne (by rw [hh]; rfl))⟩, fun k hk => by simp only [blk, Option.map_some, Option.some.injEq] at hk; omega⟩
    exact k _ (setRow_heap (at' w m) gb cur.toArray _ et _ hbw) (hU.ext hX hB) hU
end rules
theorem Sep.map {B : Nat} {w : World} {ps : List Piece} {i r : Nat} {κ ν : Type} {kv : κ → Value} {vv : ν → Value} {L : List (κ × ν)} (hS : Sep B w ps) (h : ps[i]? = some (pmap kv vv r L)) : MapIs kv vv w r L := (hS.holds i _ h).1
theorem Sep.updMap {B : Nat} {w w' w1 : World} {ps : List Piece} {i r B' : Nat} {κ ν : Type} {kv : κ → Value} {vv : ν → Value} {L L' : List (κ × ν)} (hi : ps[i]? = some (pmap kv vv r L)) (hU : Upd B' (some ⟨r, 0, none⟩) w w') (h : MapIs kv vv w' r L') (hS : Sep B w1 ps) (hx : Ext w1 w) (hB : B ≤ w.heap.size) : Sep B w' (ps.set i (pmap kv vv r L')) :=
  (hS.ext hx).upd hi hU.grown h (.inl rfl) hB
theorem Sep.newMap {B : Nat} {w w' : World} {ps : List Piece} {r : Nat} {κ ν : Type} {kv : κ → Value} {vv : ν → Value} {L : List (κ × ν)} (hS : Sep B w ps) (hx : Ext w w') (h : MapIs kv vv w' r L) (hge : w.heap.size ≤ r) (hB : B ≤ w.heap.size) : Sep B w' (pmap kv vv r L :: ps) :=
  hS.new hx h (fun k hk => by cases hk; exact ⟨hge, h.lt⟩) hB
end Go.Lt
