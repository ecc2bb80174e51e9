/- More operations: bits of int, slices of slices, an append of a slice. Generic over the program. No conditions. -/
import Derived.Test.YtfkdlepemiepdaaLtCalls
namespace Go.Lt
open Go.RowKit
set_option linter.unusedVariables false
set_option linter.unusedSimpArgs false

/-- The literal of the inverse. -/
def xor1 (a : Int) : Int := if a % 2 = 0 then a + 1 else a - 1

theorem toNat_ofInt64 (a : Int) (h0 : 0 ≤ a) (h1 : a ≤ 9223372036854775807) : (BitVec.ofInt 64 a).toNat = a.toNat := by
  rw [BitVec.toNat_ofInt]
  have : a % (2 ^ 64 : Nat) = a := Int.emod_eq_of_lt h0 (by omega)
  rw [this]

theorem and1_eq (a : Int) (h : 0 ≤ a ∧ a ≤ 9223372036854775807) : IntKind.i64.wrap (BitVec.ofInt IntKind.i64.bits a &&& BitVec.ofInt IntKind.i64.bits 1).toNat = a % 2 := by
  show IntKind.i64.wrap (BitVec.ofInt 64 a &&& BitVec.ofInt 64 1).toNat = a % 2
  rw [BitVec.toNat_and, toNat_ofInt64 a h.1 h.2, toNat_ofInt64 1 (by omega) (by omega)]
  show IntKind.i64.wrap ((a.toNat &&& 1 : Nat) : Int) = _
  rw [Nat.and_one_is_mod, IntWalk.i64_in _ (by omega)]
  omega

theorem xor1_eq (a : Int) (h : 0 ≤ a ∧ a ≤ 9223372036854775806) : IntKind.i64.wrap (BitVec.ofInt IntKind.i64.bits a ^^^ BitVec.ofInt IntKind.i64.bits 1).toNat = xor1 a := by
  show IntKind.i64.wrap (BitVec.ofInt 64 a ^^^ BitVec.ofInt 64 1).toNat = xor1 a
  rw [BitVec.toNat_xor, toNat_ofInt64 a h.1 (by omega), toNat_ofInt64 1 (by omega) (by omega)]
  show IntKind.i64.wrap ((a.toNat ^^^ 1 : Nat) : Int) = _
  have key : ∀ n : Nat, n ^^^ 1 = if n % 2 = 0 then n + 1 else n - 1 := by
    intro n
    apply Nat.eq_of_testBit_eq
    intro i
    rcases Nat.mod_two_eq_zero_or_one n with hn | hn
    · obtain ⟨q, rfl⟩ : ∃ q, n = 2 * q := ⟨n / 2, by omega⟩
      rw [if_pos (by omega)]
      cases i with
      | zero => simp [Nat.testBit_zero]
      | succ i =>
        rw [Nat.testBit_xor, Nat.testBit_succ, Nat.testBit_succ, Nat.testBit_succ]
        have e1 : (2 * q) / 2 = q := by omega
        have e2 : (2 * q + 1) / 2 = q := by omega
        rw [e1, e2]; simp
    · obtain ⟨q, rfl⟩ : ∃ q, n = 2 * q + 1 := ⟨n / 2, by omega⟩
      rw [if_neg (by omega)]
      cases i with
      | zero => simp [Nat.testBit_zero]
      | succ i =>
        rw [Nat.testBit_xor, Nat.testBit_succ, Nat.testBit_succ, Nat.testBit_succ]
        have e1 : (2 * q + 1) / 2 = q := by omega
        have e2 : (2 * q + 1 - 1) / 2 = q := by omega
        rw [e1, e2]; simp
  rw [key, IntWalk.i64_in _ (by split <;> omega)]
  unfold xor1
  split <;> split <;> omega

section more
variable {P : Program} {e : Env} {dd : Option Tmp} {t ty tt : TypeId} {x y : Operand} {ps : String} {af : Array Edge} {g : Option (Nat × Bool)} {a b : Int}
theorem yand1 (hx : ev e x = some (.int .i64 a)) (hy : ev e y = some (.int .i64 1)) (h : 0 ≤ a ∧ a ≤ 9223372036854775807) : Yields P e ⟨dd, .binOp .and t x y ty, tt, ps, af, g⟩ (.int .i64 (a % 2)) := by
  have := Yields.bin (P := P) (d := dd) (op := .and) (t := t) (ty := ty) (tt := tt) (ps := ps) (af := af) (g := g) hx hy (v := .int .i64 (IntKind.i64.wrap (BitVec.ofInt IntKind.i64.bits a &&& BitVec.ofInt IntKind.i64.bits 1).toNat)) rfl
  rwa [and1_eq a h] at this
theorem yxor1 (hx : ev e x = some (.int .i64 a)) (hy : ev e y = some (.int .i64 1)) (h : 0 ≤ a ∧ a ≤ 9223372036854775806) : Yields P e ⟨dd, .binOp .xor t x y ty, tt, ps, af, g⟩ (.int .i64 (xor1 a)) := by
  have := Yields.bin (P := P) (d := dd) (op := .xor) (t := t) (ty := ty) (tt := tt) (ps := ps) (af := af) (g := g) hx hy (v := .int .i64 (IntKind.i64.wrap (BitVec.ofInt IntKind.i64.bits a ^^^ BitVec.ofInt IntKind.i64.bits 1).toNat)) rfl
  rwa [xor1_eq a h] at this
theorem yshr {k j : IntKind} {n : Nat} (hx : ev e x = some (.int k a)) (hy : ev e y = some (.int j (n : Int))) (h : n ≤ k.bits) : Yields P e ⟨dd, .binOp .shr t x y ty, tt, ps, af, g⟩ (.int k (a / 2 ^ n)) := by
  intro ρ hρ w
  have hp : (0 : Int) ≤ 2 ^ n := Int.pow_nonneg (by omega)
  have hmin : min n k.bits = n := Nat.min_eq_left h
  have hneg : ¬ ((n : Int) < 0) := by omega
  have hrun : (binOp .shr t (.int k a) (.int j (n : Int))).run P w = .ok (.int k (a / 2 ^ n)) w := by
    simp only [binOp, Op.shift, hneg, if_false, Int.toNat_natCast, hmin, Sem.run_pure]
    rw [Int.fdiv_eq_ediv_of_nonneg _ hp]
  simp [execOp, hρ _ _ hx, hρ _ _ hy, eqGuard_int, hrun]

/-- l[lo:], l[:hi]. -/
theorem run_sliceH {T : Tab} (hT : OkTab P T) {ti : TI} {el : TypeId} {ei : TI} {ao : Option Addr} {n cap : Nat} {k : IntKind} {h : Int} (ht : tget T t = some ti) (htd : ti.desc = .slice el) (he : tget T el = some ei) (h0 : 0 ≤ h ∧ h ≤ cap) (w : World) :
    (Instr.sliceAt t (.slice ao n cap) none (some (.int k h)) none).run P w = .ok (.slice ao h.toNat cap) w := by
  have h1 := run_underlying' (hT.at ht); rw [htd] at h1
  have h2 := run_sizeOf' (hT.at he)
  have ha : (if cap = 0 then ao else ao.map (·.add 0)) = ao := by
    have : ao.map (·.add 0) = ao := by cases ao <;> simp [Addr.add]
    rw [this]; simp
  simp [Instr.sliceAt, Instr.slice, h1, h2, Instr.sliceBounds, Instr.sliceBound, asIntOf, h0.1, h0.2]
  first | exact ha | (intro _; cases ao <;> simp [Addr.add])
theorem run_sliceL {T : Tab} (hT : OkTab P T) {ti : TI} {el : TypeId} {ei : TI} {ao : Option Addr} {n cap : Nat} {k : IntKind} {h : Int} (ht : tget T t = some ti) (htd : ti.desc = .slice el) (he : tget T el = some ei) (h0 : 0 ≤ h ∧ h ≤ n) (w : World) :
    (Instr.sliceAt t (.slice ao n cap) (some (.int k h)) none none).run P w = .ok (.slice (if cap = h.toNat then ao else ao.map (·.add (h.toNat * ei.size))) (n - h.toNat) (cap - h.toNat)) w := by
  have h1 := run_underlying' (hT.at ht); rw [htd] at h1
  have h2 := run_sizeOf' (hT.at he)
  simp [Instr.sliceAt, Instr.slice, h1, h2, Instr.sliceBounds, Instr.sliceBound, asIntOf, h0.1, h0.2]
end more

theorem Row.take {α : Type} {s : Nat} {enc : α → List Value} {w : World} {a : Option Addr} {l : List α} (h : Row s enc w a l) (n : Nat) : Row s enc w a (l.take n) := by
  refine ⟨by have := h.len; rw [List.length_take]; omega, fun i x hi => ?_⟩
  rw [List.getElem?_take] at hi
  split at hi
  · exact h.elem i x hi
  · cases hi
theorem Row.dropAt {α : Type} {s : Nat} {enc : α → List Value} {w : World} {a : Option Addr} {l : List α} (h : Row s enc w a l) (n cap : Nat) (hc : l.length ≤ cap) : Row s enc w (if cap = n then a else a.map (·.add (n * s))) (l.drop n) := by
  refine ⟨by have := h.len; rw [List.length_drop]; omega, fun i x hi => ?_⟩
  rw [List.getElem?_drop] at hi
  obtain ⟨b, off, ha, hcells⟩ := h.elem _ _ hi
  have hlt : n + i < l.length := (List.getElem?_eq_some_iff.1 hi).1
  rw [if_neg (by omega), ha]
  exact ⟨b, off + n * s, by simp [Addr_add_none], by rw [Nat.add_mul] at hcells; rwa [Nat.add_assoc]⟩

section rules
variable {P : Program} {N : Nat} {e : Env} {w : World} {Q : Exit → Act → World → Prop} {ops : List Oper} {l : List Oper} {T : Tab}
  {d : Nat} {tt ty : TypeId} {ps : String} {af : Array Edge} {g : Option (Nat × Bool)} {t : TypeId} {α : Type} {s : Nat} {enc : α → List Value} {B : Nat} {ti ei : TI} {el : TypeId} {C : World → Prop}

theorem WL.and1 {x y : Operand} {a : Int} (hg : gate ops e g = some true) (hd : Nat.blt d N = true) (hx : ev e x = some (.int .i64 a)) (hy : ev e y = some (.int .i64 1)) (h : 0 ≤ a ∧ a ≤ 9223372036854775807) (k : WL P N ops.toArray l ((d, .int .i64 (a % 2)) :: e) w Q) : WL P N ops.toArray (⟨some d, .binOp .and t x y ty, tt, ps, af, g⟩ :: l) e w Q := WL.step hg hd (yand1 hx hy h).in k
theorem QL.and1 {x y : Operand} {a : Int} (hg : gate ops e g = some true) (hd : Nat.blt d N = true) (hx : ev e x = some (.int .i64 a)) (hy : ev e y = some (.int .i64 1)) (h : 0 ≤ a ∧ a ≤ 9223372036854775807) (k : QL P N C ops.toArray l ((d, .int .i64 (a % 2)) :: e) Q) : QL P N C ops.toArray (⟨some d, .binOp .and t x y ty, tt, ps, af, g⟩ :: l) e Q := QL.step hg hd (yand1 hx hy h).in k
theorem WL.xor1 {x y : Operand} {a : Int} (hg : gate ops e g = some true) (hd : Nat.blt d N = true) (hx : ev e x = some (.int .i64 a)) (hy : ev e y = some (.int .i64 1)) (h : 0 ≤ a ∧ a ≤ 9223372036854775806) (k : WL P N ops.toArray l ((d, .int .i64 (Lt.xor1 a)) :: e) w Q) : WL P N ops.toArray (⟨some d, .binOp .xor t x y ty, tt, ps, af, g⟩ :: l) e w Q := WL.step hg hd (yxor1 hx hy h).in k
theorem QL.xor1 {x y : Operand} {a : Int} (hg : gate ops e g = some true) (hd : Nat.blt d N = true) (hx : ev e x = some (.int .i64 a)) (hy : ev e y = some (.int .i64 1)) (h : 0 ≤ a ∧ a ≤ 9223372036854775806) (k : QL P N C ops.toArray l ((d, .int .i64 (Lt.xor1 a)) :: e) Q) : QL P N C ops.toArray (⟨some d, .binOp .xor t x y ty, tt, ps, af, g⟩ :: l) e Q := QL.step hg hd (yxor1 hx hy h).in k
theorem WL.shr {x y : Operand} {a : Int} {kk j : IntKind} {n : Nat} (hg : gate ops e g = some true) (hd : Nat.blt d N = true) (hx : ev e x = some (.int kk a)) (hy : ev e y = some (.int j (n : Int))) (h : n ≤ kk.bits) (k : WL P N ops.toArray l ((d, .int kk (a / 2 ^ n)) :: e) w Q) : WL P N ops.toArray (⟨some d, .binOp .shr t x y ty, tt, ps, af, g⟩ :: l) e w Q := WL.step hg hd (yshr hx hy h).in k
theorem QL.shr {x y : Operand} {a : Int} {kk j : IntKind} {n : Nat} (hg : gate ops e g = some true) (hd : Nat.blt d N = true) (hx : ev e x = some (.int kk a)) (hy : ev e y = some (.int j (n : Int))) (h : n ≤ kk.bits) (k : QL P N C ops.toArray l ((d, .int kk (a / 2 ^ n)) :: e) Q) : QL P N C ops.toArray (⟨some d, .binOp .shr t x y ty, tt, ps, af, g⟩ :: l) e Q := QL.step hg hd (yshr hx hy h).in k

/-- l[:h] -/
theorem WL.sliceH {x y : Operand} {a : Option Addr} {xs : List α} {n cap : Nat} {kk : IntKind} {h : Int} {w0 : World} (hT : OkTab P T) (hg : gate ops e g = some true) (hd : Nat.blt d N = true)
    (hx : ev e x = some (.slice a n cap)) (hy : ev e y = some (.int kk h)) (ht : tget T t = some ti) (htd : ti.desc = .slice el) (he : tget T el = some ei)
    (R : Row s enc w0 a xs) (hn : xs.length = n) (hc : xs.length ≤ cap) (h0 : 0 ≤ h ∧ h ≤ xs.length)
    (k : Row s enc w0 a (xs.take h.toNat) → (xs.take h.toNat).length ≤ cap → WL P N ops.toArray l ((d, .slice a (xs.take h.toNat).length cap) :: e) w Q) : WL P N ops.toArray (⟨some d, .slice t x none (some y) none, tt, ps, af, g⟩ :: l) e w Q := by
  refine WL.step hg hd ?_ (k (R.take _) (by rw [List.length_take]; omega))
  refine Yields.in ?_
  intro ρ hρ w'
  have := run_sliceH (P := P) hT (t := t) (ao := a) (n := n) (cap := cap) (k := kk) (h := h) ht htd he (by omega) w'
  have e1 : (xs.take h.toNat).length = h.toNat := by rw [List.length_take]; omega
  simp [execOp, hρ _ _ hx, hρ _ _ hy, this, e1]
/-- l[h:] -/
theorem WL.sliceL {x y : Operand} {a : Option Addr} {xs : List α} {n cap : Nat} {kk : IntKind} {h : Int} {w0 : World} (hT : OkTab P T) (hg : gate ops e g = some true) (hd : Nat.blt d N = true)
    (hx : ev e x = some (.slice a n cap)) (hy : ev e y = some (.int kk h)) (ht : tget T t = some ti) (htd : ti.desc = .slice el) (he : tget T el = some ei) (hs : ei.size = s)
    (R : Row s enc w0 a xs) (hn : xs.length = n) (hc : xs.length ≤ cap) (h0 : 0 ≤ h ∧ h ≤ xs.length)
    (k : ∀ a' cap', Row s enc w0 a' (xs.drop h.toNat) → (xs.drop h.toNat).length ≤ cap' → WL P N ops.toArray l ((d, .slice a' (xs.drop h.toNat).length cap') :: e) w Q) : WL P N ops.toArray (⟨some d, .slice t x (some y) none none, tt, ps, af, g⟩ :: l) e w Q := by
  refine WL.step hg hd ?_ (k (if cap = h.toNat then a else a.map (·.add (h.toNat * s))) (cap - h.toNat) (R.dropAt _ _ hc) (by rw [List.length_drop]; omega))
  refine Yields.in ?_
  intro ρ hρ w'
  have := run_sliceL (P := P) hT (t := t) (ao := a) (n := n) (cap := cap) (k := kk) (h := h) ht htd he (by omega) w'
  have e1 : (xs.drop h.toNat).length = n - h.toNat := by rw [List.length_drop, hn]
  rw [hs] at this
  simp [execOp, hρ _ _ hx, hρ _ _ hy, this, e1]

/-- An append of nothing: what is nil is appended. -/
theorem run_append_nothing (hT : OkTab P T) {a : Option Addr} {n cap : Nat} {xs : List α} {w' : World} (ht : tget T t = some ti) (htd : ti.desc = .slice el) (he : tget T el = some ei) (ho : Own s enc el B w' a cap xs) (hs : ei.size = s) :
    (Builtin.append_ #[t, t] tt #[.slice a xs.length cap, .slice none 0 0]).run P w' = .ok (.slice a xs.length cap) w' := by
  obtain ⟨j, hj1, hj2, _⟩ := (hT.at he).info
  have hti := (hT.at ht).1
  rw [htd] at hti
  exact run_append_owned_none (P := P) w' B t tt el j s hti hj1 _ _ _ ho

/-- 'append(own, ys...)'. -/
theorem WL.appendS {x y : Operand} {a b : Option Addr} {n cap m c : Nat} {xs ys : List α} {wo w1 w0 : World} (hT : OkTab P T) (hE : Enc s enc) (hg : gate ops e g = some true) (hd : Nat.blt d N = true)
    (hx : ev e x = some (.slice a n cap)) (hy : ev e y = some (.slice b m c)) (ht : tget T t = some ti) (htd : ti.desc = .slice el) (he : tget T el = some ei) (hs : ei.size = s) (hz : ei.zero.cells.size = s) (hby : Nat.ble ei.bytes 1024 = true)
    (ho : Own s enc el B wo a cap xs) (hwo : Ext wo w) (hn : xs.length = n) (hr : Row s enc w1 b ys) (hw1 : Ext w1 w) (hm : ys.length = m) (hmc : b = none → c = 0) (hB : w0.heap.size = B) (hX : Ext w0 w)
    (hbd : xs.length + ys.length ≤ 137438953472)
    (k : ∀ a' cap' w', Own s enc el B w' a' cap' (xs ++ ys) → Ext w0 w' → Upd B a w w' → (blk a' = blk a ∨ ∃ k, blk a' = some k ∧ w.heap.size ≤ k) → WL P N ops.toArray l ((d, .slice a' (xs ++ ys).length cap') :: e) w' Q) :
    WL P N ops.toArray (⟨some d, .call ⟨.builtin .append, ⟨[x, y]⟩, ⟨[t, t]⟩⟩, tt, ps, af, g⟩ :: l) e w Q := by
  have hb' := Nat.le_of_ble_eq_true hby
  by_cases hb : b = none
  · subst hb
    have hys : ys = [] := by
      cases ys with
      | nil => rfl
      | cons z r => obtain ⟨b', off, h1, _⟩ := hr.elem 0 z rfl; cases h1
    subst hys
    obtain rfl := hmc rfl
    subst hn; subst hm
    have ho' := ho.ext hwo
    refine WL.eff (v := .slice a (xs ++ []).length cap) (w' := fun m => at' w m) hg hd ?_ (fun m => ?_)
    · intro ρ hρ m
      have := run_append_nothing (P := P) (tt := tt) (n := xs.length) hT ht htd he (w' := at' w m) ho' hs
      simp only [execOp, resolve, invoke, builtin, Sem.run_bind, Sem.run_pure, Result.andThen_ok, List.map_toArray, List.map_cons, List.map_nil, hρ _ _ hx, hρ _ _ hy, List.append_nil]
      rw [show ([] : List α).length = 0 from rfl, this]
      rfl
    · exact k a cap (at' w m) (by rw [List.append_nil]; exact ho') (hX.at m) ⟨⟨rfl, rfl, rfl, Nat.le_refl _, fun _ _ _ => rfl⟩, fun q hq => (ho'.blk_lt q hq).1⟩ (.inl rfl)
  · refine WL.append (B := B) (enc := enc) (ys := ys) hT hE hg hd hx hy ht htd he hs hz (ho.ext hwo) hn (hr.ext hw1) hm hb ⟨?_, ?_, ?_⟩ ?_
    · rw [← hn, ← hm]; calc (xs.length + ys.length) * ei.bytes ≤ 137438953472 * 1024 := Nat.mul_le_mul hbd hb'
        _ ≤ _ := by decide
    · rw [← hn, ← hm]; simp only [maxLen]; omega
    · rw [← hB]; exact hX.size
    · intro a' cap' w' h1 h2 h3
      exact k a' cap' w' h1 (h2.ext hX (Nat.le_of_eq hB)) h2 h3

theorem Own.noneCap {w' : World} {a : Option Addr} {cap : Nat} {xs : List α} (h : Own s enc el B w' a cap xs) : a = none → cap = 0 := by
  rintro rfl
  rcases h.2 with ⟨h1, _⟩ | ⟨_, _, _, h1, _⟩
  · simp only [Value.slice.injEq] at h1; exact h1.2.2
  · simp at h1

/-- A slice that is written out is one's own. -/
theorem Own.of_block {w' : World} {gb : Nat} (xs : List α) (hE : Enc s enc) (h : w'.heap[gb]? = some (.cells (xs.flatMap enc).toArray el (0, 0))) (hB : B ≤ gb) (hm : Nat.ble xs.length 1000000 = true) : Own s enc el B w' (some ⟨gb, 0, none⟩) xs.length xs :=
  ⟨by rw [length_flatMap' hE.len], .inr ⟨gb, xs.length, _, rfl, hB, h, Nat.le_refl _, by have := Nat.le_of_ble_eq_true hm; simp only [maxLen]; omega, by simp [length_flatMap' hE.len], by
    rw [List.take_of_length_le (by simp [length_flatMap' hE.len])]⟩⟩
theorem dec_ne_dec (z : Bool) (p : Prop) [Decidable p] : dec (z ≠ dec p) = (z != decide p) := by
  by_cases h : p <;> cases z <;> simp [h, dec_true, dec_false]
theorem dec_bool (z : Bool) : dec (z = true) = z := by cases z <;> simp [dec_true, dec_false]

/-- An empty slice that is written out is one's own. -/
theorem Own.of_block0 {w' : World} {gb : Nat} (h : w'.heap[gb]? = some (.cells #[] el (0, 0))) (hB : B ≤ gb) : Own s enc el B w' (some ⟨gb, 0, none⟩) 0 ([] : List α) :=
  ⟨by simp, .inr ⟨gb, 0, #[], rfl, hB, h, Nat.le_refl _, Nat.zero_le _, by simp, by simp⟩⟩
end rules
end Go.Lt
