/- Structs of plain fields held against each other; strings held against each other. Generic over the program. No conditions. -/
import Derived.Test.YtfkdlepemiepdaaLtSep
import Derived.Laws.StructEq
namespace Go.Lt
open Go.RowKit
set_option linter.unusedVariables false
set_option linter.unusedSimpArgs false

def scal : TypeDesc → Value → Value → Bool
  | .bool, .bool _, .bool _ => true
  | .int _, .int k _, .int k' _ => kindEq k k'
  | .string, .string _, .string _ => true
  | _, _, _ => false
/-- Each field lies at its number, is named, and holds a plain value. -/
def okF (T : Tab) : Nat → List Field → List Value → List Value → Bool
  | _, [], [], [] => true
  | i, f :: fs, x :: xs, y :: ys =>
    (match tget T f.type with
     | some ti => scal ti.desc x y && !isAggD ti.desc
     | none => false) && Nat.beq f.offset i && (f.name != "_") && okF T (i + 1) fs xs ys
  | _, _, _, _ => false

section
variable {P : Program} {T : Tab}
theorem run_scal (hT : OkTab P T) {t : TypeId} {i : TI} (ht : tget T t = some i) {x y : Value} (h : scal i.desc x y = true) (d : Nat) (w : World) : (Op.equalIn (d + 1) t x y).run P w = .ok (dec (x = y)) w := by
  have ho := (hT.at ht).1
  cases hd : i.desc <;> rw [hd] at h ho <;> cases x <;> simp [scal] at h <;> cases y <;> simp [scal] at h
  · rename_i a b
    rw [run_equalIn_bool' w d t a b ho]
    congr 1
    by_cases hab : a = b
    · subst hab; rw [dec_true rfl]; simp
    · rw [dec_false (fun h => hab (by injection h))]; simpa using hab
  · rename_i k' k a kk b
    have := kindEq_eq h
    subst this
    rw [run_equalIn_int w d t k k' a b ho]
    congr 1
    by_cases hab : a = b
    · subst hab; rw [dec_true rfl]; simp
    · rw [dec_false (fun h => hab (by injection h))]; simpa using hab
  · rename_i a b
    rw [run_equalIn_string w d t a b ho]
    congr 1
    by_cases hab : a = b
    · subst hab; rw [dec_true rfl]; simp
    · rw [dec_false (fun h => hab (by injection h))]
      have : a.toList ≠ b.toList := fun h => hab (by
        rw [ByteArray.toList_eq, ByteArray.toList_eq] at h
        obtain ⟨⟨x⟩⟩ := a
        obtain ⟨⟨y⟩⟩ := b
        simp only at h
        rw [h])
      simpa using this
theorem run_part' (hT : OkTab P T) {t : TypeId} {i : TI} (ht : tget T t = some i) (ha : isAggD i.desc = false) {xs : Array Value} {o : Nat} {v : Value} (hv : xs[o]? = some v) (w : World) : (part t xs o).run P w = .ok v w := by
  have h1 := run_isAgg' (hT.at ht); rw [ha] at h1
  simp [part, h1, hv]
theorem run_okF (hT : OkTab P T) (d : Nat) (w : World) : ∀ (fs : List Field) (i : Nat) (px py xs ys : List Value), px.length = i → py.length = i → okF T i fs xs ys = true →
    (Op.eqFields (d + 1) (px ++ xs).toArray (py ++ ys).toArray fs).run P w = .ok (dec (xs = ys)) w
  | [], i, px, py, xs, ys, h1, h2, h => by
    cases xs <;> cases ys <;> simp [okF] at h
    simp only [Op.eqFields, Sem.run_pure]
    rw [dec_true trivial]
  | f :: fs, i, px, py, [], ys, h1, h2, h => by cases ys <;> simp [okF] at h
  | f :: fs, i, px, py, x :: xs, [], h1, h2, h => by simp [okF] at h
  | f :: fs, i, px, py, x :: xs, y :: ys, h1, h2, h => by
    simp only [okF, Bool.and_eq_true] at h
    obtain ⟨⟨⟨ha, hb⟩, hc⟩, hr⟩ := h
    split at ha
    · rename_i ti hti
      simp only [Bool.and_eq_true, Bool.not_eq_true'] at ha
      have hoff := Nat.eq_of_beq_eq_true hb
      have hne : f.name ≠ "_" := by simpa using hc
      have e1 : (px ++ x :: xs).toArray[f.offset]? = some x := by rw [hoff]; simp [← h1]
      have e2 : (py ++ y :: ys).toArray[f.offset]? = some y := by rw [hoff]; simp [← h2]
      have r1 := run_part' hT hti ha.2 e1 w
      have r2 := run_part' hT hti ha.2 e2 w
      have r3 := run_scal hT hti ha.1 d w
      have ih := run_okF hT d w fs (i + 1) (px ++ [x]) (py ++ [y]) xs ys (by simp [h1]) (by simp [h2]) hr
      simp only [List.append_assoc, List.singleton_append] at ih
      simp only [Op.eqFields, if_pos hne, Sem.run_bind, r1, r2, r3, Result.andThen_ok]
      by_cases hxy : x = y
      · rw [dec_true hxy]
        simp only [Bool.not_true, Bool.false_eq_true, if_false]
        rw [ih]
        congr 1
        exact dec_congr ⟨fun h => by rw [hxy, h], fun h => (List.cons.inj h).2⟩
      · rw [dec_false hxy]
        simp only [Bool.not_false, if_true, Sem.run_pure]
        congr 1
        exact (dec_false (fun h => hxy (List.cons.inj h).1)).symm
    · cases ha

def FactEq (P : Program) (t : TypeId) : Prop := P.eqGuardType P.depth t = false ∧ P.stoodInHeld t = false

theorem run_eqS (hT : OkTab P T) {t : TypeId} {i : TI} {fs : List Field} (ht : tget T t = some i) (hd : i.desc = .struct fs.toArray) (hp : P.stoodInHeld t = false) {xs ys : List Value} (h : okF T 0 fs xs ys = true) (w : World) : (Op.equalIn 10000 t (.agg xs.toArray) (.agg ys.toArray)).run P w = .ok (dec (xs = ys)) w := by
  have ho := (hT.at ht).1
  rw [hd] at ho
  have hf : P.fieldsOf t = fs.toArray := by simp [Program.fieldsOf, ho]
  rw [show (10000 : Nat) = 9998 + 1 + 1 from rfl, run_equalIn_struct w (9998 + 1) t _ _ (by rw [hf]; exact ho) hp, hf]
  exact run_okF hT 9998 w fs 0 [] [] xs ys rfl rfl h

variable {e : Env} {dd : Option Tmp} {tt ty t : TypeId} {x y : Operand} {ps : String} {af : Array Edge} {g : Option (Nat × Bool)} {i : TI} {fs : List Field} {xs ys : List Value}
theorem yneqS (hT : OkTab P T) (hx : ev e x = some (.agg xs.toArray)) (hy : ev e y = some (.agg ys.toArray)) (ht : tget T t = some i) (hd : i.desc = .struct fs.toArray) (h : okF T 0 fs xs ys = true) (hq : FactEq P t) :
    Yields P e ⟨dd, .binOp .neq t x y ty, tt, ps, af, g⟩ (.bool (dec (xs ≠ ys))) := by
  intro ρ hρ w
  have h1 := run_eqGuard_agg (P := P) w .neq t x y xs.toArray ys.toArray hq.1
  have h2 := run_neq_struct (P := P) w t xs.toArray ys.toArray
  rw [run_eqS hT ht hd hq.2 h w] at h2
  have h3 : (!dec (xs = ys)) = dec (xs ≠ ys) := by
    by_cases hh : xs = ys
    · rw [dec_true hh, dec_false (fun h => h hh)]; rfl
    · rw [dec_false hh, dec_true hh]; rfl
  simp only [Result.andThen_ok, h3] at h2
  simp [execOp, hρ _ _ hx, hρ _ _ hy, h1, h2]
theorem yeqlS (hT : OkTab P T) (hx : ev e x = some (.agg xs.toArray)) (hy : ev e y = some (.agg ys.toArray)) (ht : tget T t = some i) (hd : i.desc = .struct fs.toArray) (h : okF T 0 fs xs ys = true) (hq : FactEq P t) :
    Yields P e ⟨dd, .binOp .eql t x y ty, tt, ps, af, g⟩ (.bool (dec (xs = ys))) := by
  intro ρ hρ w
  have h1 := run_eqGuard_agg (P := P) w .eql t x y xs.toArray ys.toArray hq.1
  have h2 := run_eql_struct (P := P) w t xs.toArray ys.toArray
  rw [run_eqS hT ht hd hq.2 h w] at h2
  simp only [Result.andThen_ok] at h2
  simp [execOp, hρ _ _ hx, hρ _ _ hy, h1, h2]
end

section rules
variable {P : Program} {N : Nat} {e : Env} {w : World} {Q : Exit → Act → World → Prop} {ops : List Oper} {l : List Oper} {T : Tab} {C : World → Prop} {Kf : Act → Prop}
  {d : Nat} {tt ty t : TypeId} {ps : String} {af : Array Edge} {g : Option (Nat × Bool)} {x y : Operand} {i : TI} {fs : List Field} {xs ys : List Value}
theorem WL.neqS (hT : OkTab P T) (hg : gate ops e g = some true) (hd : Nat.blt d N = true) (hx : ev e x = some (.agg xs.toArray)) (hy : ev e y = some (.agg ys.toArray)) (ht : tget T t = some i) (htd : i.desc = .struct fs.toArray) (h : okF T 0 fs xs ys = true) (hq : FactEq P t)
    (k : WL P N ops.toArray l ((d, .bool (dec (xs ≠ ys))) :: e) w Q) : WL P N ops.toArray (⟨some d, .binOp .neq t x y ty, tt, ps, af, g⟩ :: l) e w Q := WL.step hg hd (yneqS hT hx hy ht htd h hq).in k
theorem QL.neqS (hT : OkTab P T) (hg : gate ops e g = some true) (hd : Nat.blt d N = true) (hx : ev e x = some (.agg xs.toArray)) (hy : ev e y = some (.agg ys.toArray)) (ht : tget T t = some i) (htd : i.desc = .struct fs.toArray) (h : okF T 0 fs xs ys = true) (hq : FactEq P t)
    (k : QL P N C ops.toArray l ((d, .bool (dec (xs ≠ ys))) :: e) Q) : QL P N C ops.toArray (⟨some d, .binOp .neq t x y ty, tt, ps, af, g⟩ :: l) e Q := QL.step hg hd (yneqS hT hx hy ht htd h hq).in k
theorem FL.neqS (hT : OkTab P T) (hg : gate ops e g = some true) (hd : Nat.blt d N = true) (hx : ev e x = some (.agg xs.toArray)) (hy : ev e y = some (.agg ys.toArray)) (ht : tget T t = some i) (htd : i.desc = .struct fs.toArray) (h : okF T 0 fs xs ys = true) (hq : FactEq P t)
    (k : FL P N ops.toArray C l ((d, .bool (dec (xs ≠ ys))) :: e) w Kf) : FL P N ops.toArray C (⟨some d, .binOp .neq t x y ty, tt, ps, af, g⟩ :: l) e w Kf := FL.step hg hd (yneqS hT hx hy ht htd h hq).in k
theorem WL.eqlS (hT : OkTab P T) (hg : gate ops e g = some true) (hd : Nat.blt d N = true) (hx : ev e x = some (.agg xs.toArray)) (hy : ev e y = some (.agg ys.toArray)) (ht : tget T t = some i) (htd : i.desc = .struct fs.toArray) (h : okF T 0 fs xs ys = true) (hq : FactEq P t)
    (k : WL P N ops.toArray l ((d, .bool (dec (xs = ys))) :: e) w Q) : WL P N ops.toArray (⟨some d, .binOp .eql t x y ty, tt, ps, af, g⟩ :: l) e w Q := WL.step hg hd (yeqlS hT hx hy ht htd h hq).in k
theorem QL.eqlS (hT : OkTab P T) (hg : gate ops e g = some true) (hd : Nat.blt d N = true) (hx : ev e x = some (.agg xs.toArray)) (hy : ev e y = some (.agg ys.toArray)) (ht : tget T t = some i) (htd : i.desc = .struct fs.toArray) (h : okF T 0 fs xs ys = true) (hq : FactEq P t)
    (k : QL P N C ops.toArray l ((d, .bool (dec (xs = ys))) :: e) Q) : QL P N C ops.toArray (⟨some d, .binOp .eql t x y ty, tt, ps, af, g⟩ :: l) e Q := QL.step hg hd (yeqlS hT hx hy ht htd h hq).in k
end rules

section rules
variable {P : Program} {N : Nat} {e : Env} {w : World} {Q : Exit → Act → World → Prop} {ops : List Oper} {l : List Oper} {T : Tab}
  {d : Nat} {tt ty : TypeId} {ps : String} {af : Array Edge} {g : Option (Nat × Bool)} {t : TypeId} {α : Type} {s : Nat} {enc : α → List Value} {B : Nat} {ti ei : TI} {el : TypeId} {C : World → Prop}
/-- 'append(own, ys...)'. -/
theorem WL.appendSB {x y : Operand} {a b : Option Addr} {n cap m c : Nat} {xs ys : List α} {wo w1 w0 : World} (hT : OkTab P T) (hE : Enc s enc) (hg : gate ops e g = some true) (hd : Nat.blt d N = true)
    (hx : ev e x = some (.slice a n cap)) (hy : ev e y = some (.slice b m c)) (ht : tget T t = some ti) (htd : ti.desc = .slice el) (he : tget T el = some ei) (hs : ei.size = s) (hz : ei.zero.cells.size = s) (hby : Nat.ble ei.bytes 1024 = true)
    (ho : Own s enc el B wo a cap xs) (hwo : Ext wo w) (hn : xs.length = n) (hr : Row s enc w1 b ys) (hw1 : Ext w1 w) (hm : ys.length = m) (hmc : b = none → c = 0) (hB : w0.heap.size = B) (hX : Ext w0 w)
    (hbd : (xs.length + ys.length) * ei.bytes ≤ 140737488355328 ∧ xs.length + ys.length ≤ 9223372036854775807)
    (k : ∀ a' cap' w', Own s enc el B w' a' cap' (xs ++ ys) → Ext w0 w' → Upd B a w w' → (blk a' = blk a ∨ ∃ k, blk a' = some k ∧ w.heap.size ≤ k) → WL P N ops.toArray l ((d, .slice a' (xs ++ ys).length cap') :: e) w' Q) :
    WL P N ops.toArray (⟨some d, .call ⟨.builtin .append, ⟨[x, y]⟩, ⟨[t, t]⟩⟩, tt, ps, af, g⟩ :: l) e w Q := by
  have hb' := Nat.le_of_ble_eq_true hby
  by_cases hb : b = none
  · subst hb
    have hys : ys = [] := by
      cases ys with
      | nil => rfl
      | cons z r => obtain ⟨b', off, h1, _⟩ := hr.elem 0 z rfl; cases h1
    subst hys
    obtain rfl := hmc rfl
    subst hn; subst hm
    have ho' := ho.ext hwo
    refine WL.eff (v := .slice a (xs ++ []).length cap) (w' := fun m => at' w m) hg hd ?_ (fun m => ?_)
    · intro ρ hρ m
      have := run_append_nothing (P := P) (tt := tt) (n := xs.length) hT ht htd he (w' := at' w m) ho' hs
      simp only [execOp, resolve, invoke, builtin, Sem.run_bind, Sem.run_pure, Result.andThen_ok, List.map_toArray, List.map_cons, List.map_nil, hρ _ _ hx, hρ _ _ hy, List.append_nil]
      rw [show ([] : List α).length = 0 from rfl, this]
      rfl
    · exact k a cap (at' w m) (by rw [List.append_nil]; exact ho') (hX.at m) ⟨⟨rfl, rfl, rfl, Nat.le_refl _, fun _ _ _ => rfl⟩, fun q hq => (ho'.blk_lt q hq).1⟩ (.inl rfl)
  · refine WL.append (B := B) (enc := enc) (ys := ys) hT hE hg hd hx hy ht htd he hs hz (ho.ext hwo) hn (hr.ext hw1) hm hb ⟨?_, ?_, ?_⟩ ?_
    · rw [← hn, ← hm]; exact hbd.1
    · rw [← hn, ← hm]; simp only [maxLen]; omega
    · rw [← hB]; exact hX.size
    · intro a' cap' w' h1 h2 h3
      exact k a' cap' w' h1 (h2.ext hX (Nat.le_of_eq hB)) h2 h3

end rules
end Go.Lt
