/- More rules: rows made with room, slices in regions that draw, blocks of variables beside rows. Generic over the program. No conditions. -/
import Derived.Test.YtfkdlepemiepdaaLtStruct
import Derived.Test.YtfkdlepemiepdaaLtMore
namespace Go.Lt
open Go.RowKit
set_option linter.unusedVariables false
set_option linter.unusedSimpArgs false

section own
variable {α : Type} {s : Nat} {enc : α → List Value} {el : TypeId} {B : Nat} {w : World} {a : Option Addr} {cap : Nat} {l : List α}
theorem Own.take (hE : Enc s enc) (h : Own s enc el B w a cap l) (k : Nat) : Own s enc el B w a cap (l.take k) := by
  rcases h.2 with ⟨h1, h2⟩ | ⟨g', c', cur, h1, h2, h3, h4, h5, h6, h7⟩
  · have : l = [] := List.eq_nil_of_length_eq_zero h2
    subst this; simpa using h
  · simp only [Value.slice.injEq, true_and] at h1
    obtain ⟨h1, rfl⟩ := h1
    refine ⟨by rw [length_flatMap' hE.len], .inr ⟨g', cap, cur, by rw [h1], h2, h3, by rw [List.length_take]; omega, h5, h6, ?_⟩⟩
    have hle : (l.take k).length * s ≤ l.length * s := Nat.mul_le_mul_right s (by rw [List.length_take]; omega)
    have e1 : l.flatMap enc = (l.take k).flatMap enc ++ (l.drop k).flatMap enc := by rw [← List.flatMap_append, List.take_append_drop]
    have e2 : cur.toList.take ((l.take k).length * s) = (cur.toList.take (l.length * s)).take ((l.take k).length * s) := by rw [List.take_take, Nat.min_eq_left hle]
    rw [e2, h7, e1, List.take_left' (length_flatMap' hE.len _)]
theorem Own.blk_ne {gb : Nat} (h : Own s enc el B w a cap l) (hge : w.heap.size ≤ gb) : blk a = none ∨ blk a ≠ blk (some ⟨gb, 0, none⟩) := by
  cases hb : blk a with
  | none => exact .inl rfl
  | some k => exact .inr (fun hh => by have := (h.blk_lt k hb).2; simp [blk] at hh; omega)
end own

section mm
variable {P : Program} {e : Env} {dd : Option Tmp} {tt : TypeId} {x y : Operand} {ps : String} {af : Array Edge} {g : Option (Nat × Bool)} {a b : Int} {kk : IntKind} {ts : Array TypeId}
theorem ymin (hx : ev e x = some (.int kk a)) (hy : ev e y = some (.int kk b)) : Yields P e ⟨dd, .call ⟨.builtin .min, ⟨[x, y]⟩, ts⟩, tt, ps, af, g⟩ (.int kk (min a b)) := by
  intro ρ hρ w
  simp [execOp, resolve, invoke, builtin, hρ _ _ hx, hρ _ _ hy, Builtin.min_, Builtin.min2]
  split <;> omega
theorem ymax (hx : ev e x = some (.int kk a)) (hy : ev e y = some (.int kk b)) : Yields P e ⟨dd, .call ⟨.builtin .max, ⟨[x, y]⟩, ts⟩, tt, ps, af, g⟩ (.int kk (max a b)) := by
  intro ρ hρ w
  simp [execOp, resolve, invoke, builtin, hρ _ _ hx, hρ _ _ hy, Builtin.max_, Builtin.max2]
  split <;> omega
end mm

section rules
variable {P : Program} {N : Nat} {e : Env} {w : World} {Q : Exit → Act → World → Prop} {ops : List Oper} {l : List Oper} {T : Tab}
  {d : Nat} {tt ty : TypeId} {ps : String} {af : Array Edge} {g : Option (Nat × Bool)} {t : TypeId} {α : Type} {s : Nat} {enc : α → List Value} {B : Nat} {ti ei : TI} {el : TypeId} {C : World → Prop}
theorem WL.min {x y : Operand} {a b : Int} {kk : IntKind} {ts : Array TypeId} (hg : gate ops e g = some true) (hd : Nat.blt d N = true) (hx : ev e x = some (.int kk a)) (hy : ev e y = some (.int kk b)) (k : WL P N ops.toArray l ((d, .int kk (Min.min a b)) :: e) w Q) : WL P N ops.toArray (⟨some d, .call ⟨.builtin .min, ⟨[x, y]⟩, ts⟩, tt, ps, af, g⟩ :: l) e w Q := WL.step hg hd (ymin hx hy).in k
theorem QL.min {x y : Operand} {a b : Int} {kk : IntKind} {ts : Array TypeId} (hg : gate ops e g = some true) (hd : Nat.blt d N = true) (hx : ev e x = some (.int kk a)) (hy : ev e y = some (.int kk b)) (k : QL P N C ops.toArray l ((d, .int kk (Min.min a b)) :: e) Q) : QL P N C ops.toArray (⟨some d, .call ⟨.builtin .min, ⟨[x, y]⟩, ts⟩, tt, ps, af, g⟩ :: l) e Q := QL.step hg hd (ymin hx hy).in k
theorem WL.max {x y : Operand} {a b : Int} {kk : IntKind} {ts : Array TypeId} (hg : gate ops e g = some true) (hd : Nat.blt d N = true) (hx : ev e x = some (.int kk a)) (hy : ev e y = some (.int kk b)) (k : WL P N ops.toArray l ((d, .int kk (Max.max a b)) :: e) w Q) : WL P N ops.toArray (⟨some d, .call ⟨.builtin .max, ⟨[x, y]⟩, ts⟩, tt, ps, af, g⟩ :: l) e w Q := WL.step hg hd (ymax hx hy).in k
theorem QL.max {x y : Operand} {a b : Int} {kk : IntKind} {ts : Array TypeId} (hg : gate ops e g = some true) (hd : Nat.blt d N = true) (hx : ev e x = some (.int kk a)) (hy : ev e y = some (.int kk b)) (k : QL P N C ops.toArray l ((d, .int kk (Max.max a b)) :: e) Q) : QL P N C ops.toArray (⟨some d, .call ⟨.builtin .max, ⟨[x, y]⟩, ts⟩, tt, ps, af, g⟩ :: l) e Q := QL.step hg hd (ymax hx hy).in k
/-- make([]T, i, c) -/
theorem WL.makeC {z : α} {enc : α → List Value} {x y : Operand} {kx ky : IntKind} {i c : Int} {w0 : World} (hT : OkTab P T) (hg : gate ops e g = some true) (hd : Nat.blt d N = true)
    (hx : ev e x = some (.int kx i)) (hy : ev e y = some (.int ky c)) (ht : tget T t = some ti) (htd : ti.desc = .slice el) (he : tget T el = some ei) (hs : ei.size = s) (hby : Nat.ble ei.bytes 1024 = true)
    (hE : Enc s enc) (hz : enc z = ei.zero.cells.toList) (hzs : ei.zero.cells.size = s) (hX : Ext w0 w) (hi : 0 ≤ i ∧ i ≤ c ∧ c ≤ 137438953472)
    (k : ∀ gb w', Own s enc el w0.heap.size w' (some ⟨gb, 0, none⟩) c.toNat (List.replicate i.toNat z) → w.heap.size ≤ gb → Ext w w' → WL P N ops.toArray l ((d, .slice (some ⟨gb, 0, none⟩) (List.replicate i.toNat z).length c.toNat) :: e) w' Q) :
    WL P N ops.toArray (⟨some d, .makeSlice t x y, tt, ps, af, g⟩ :: l) e w Q := by
  obtain ⟨q, rfl⟩ := Int.eq_ofNat_of_zero_le hi.1
  obtain ⟨n, rfl⟩ := Int.eq_ofNat_of_zero_le (Int.le_trans hi.1 hi.2.1)
  obtain ⟨j, hj1, hj2, hj3, hj4⟩ := (hT.at he).info
  have hti := (hT.at ht).1
  rw [htd] at hti
  have hb' := Nat.le_of_ble_eq_true hby
  have hn : n ≤ 137438953472 := by omega
  have hqn : q ≤ n := by omega
  have hrep : madeCells ei.zero.cells (n * s) = ((List.replicate n z).flatMap enc).toArray := by
    apply Array.ext'
    simp only [madeCells, Array.toList_map, Array.toList_range]
    apply List.ext_getElem?
    intro q
    have hpos := hE.pos
    by_cases hq : q < n * s
    · have hdiv : q / s < n := by rw [Nat.div_lt_iff_lt_mul hpos]; exact hq
      have hmod : q % s < s := Nat.mod_lt _ hpos
      have h1 := getElem?_flatMap' hE.len (List.replicate n z) (q / s) (q % s) z (by simp [hdiv]) hmod
      have h2 : q / s * s + q % s = q := by rw [Nat.mul_comm]; exact Nat.div_add_mod q s
      rw [h2] at h1
      rw [h1, hz]
      simp [hq, hzs, hmod]
    · have h1 : ((List.replicate n z).flatMap enc).length = n * s := by rw [length_flatMap' hE.len]; simp
      rw [List.getElem?_eq_none (by simp; omega), List.getElem?_eq_none (by omega)]
  refine WL.eff (v := .slice (some ⟨w.heap.size, 0, none⟩) (List.replicate q z).length n) (w' := fun m => fresh (at' w m) ((List.replicate n z).flatMap enc).toArray el) hg hd ?_ (fun m => ?_)
  · intro ρ hρ m
    have hr := run_make (P := P) (at' w m) t el j ei.zero hti hj1 hj4 kx ky (q : Int) (n : Int) (by omega) (by omega) (by
      rw [hj3]
      have : ((ei.bytes : Int)) ≤ 1024 := by omega
      calc (ei.bytes : Int) * (n : Int) ≤ 1024 * 137438953472 := Int.mul_le_mul this (by omega) (by omega) (by omega)
        _ ≤ _ := by decide) (by omega)
    have e1 : ((n : Int).toNat * j.size) = n * s := by rw [hj2, hs]; simp
    rw [e1, hrep] at hr
    simp only [Int.toNat_natCast] at hr
    simp [execOp, hρ _ _ hx, hρ _ _ hy, hr, fresh]
  · have hO := Own.fresh (α := α) (enc := enc) (el := el) hE.len (at' w m) (List.replicate n z) (B := w0.heap.size) hX.size (by simp only [List.length_replicate, maxLen]; omega)
    simp only [List.length_replicate] at hO
    have hO2 := Own.take hE hO q
    rw [List.take_replicate, Nat.min_eq_left hqn] at hO2
    exact k w.heap.size _ hO2 (Nat.le_refl _) ((Ext.refl w).at m |>.trans (fresh_ext _ _ _))
theorem QL.sliceL {x y : Operand} {a : Option Addr} {xs : List α} {n cap : Nat} {kk : IntKind} {h : Int} {w0 : World} (hT : OkTab P T) (hg : gate ops e g = some true) (hd : Nat.blt d N = true)
    (hx : ev e x = some (.slice a n cap)) (hy : ev e y = some (.int kk h)) (ht : tget T t = some ti) (htd : ti.desc = .slice el) (he : tget T el = some ei) (hs : ei.size = s)
    (R : Row s enc w0 a xs) (hn : xs.length = n) (hc : xs.length ≤ cap) (h0 : 0 ≤ h ∧ h ≤ xs.length)
    (k : ∀ a' cap', Row s enc w0 a' (xs.drop h.toNat) → (xs.drop h.toNat).length ≤ cap' → QL P N C ops.toArray l ((d, .slice a' (xs.drop h.toNat).length cap') :: e) Q) : QL P N C ops.toArray (⟨some d, .slice t x (some y) none none, tt, ps, af, g⟩ :: l) e Q := by
  refine QL.step hg hd ?_ (k (if cap = h.toNat then a else a.map (·.add (h.toNat * s))) (cap - h.toNat) (R.dropAt _ _ hc) (by rw [List.length_drop]; omega))
  refine Yields.in ?_
  intro ρ hρ w'
  have := run_sliceL (P := P) hT (t := t) (ao := a) (n := n) (cap := cap) (k := kk) (h := h) ht htd he (by omega) w'
  have e1 : (xs.drop h.toNat).length = n - h.toNat := by rw [List.length_drop, hn]
  rw [hs] at this
  simp [execOp, hρ _ _ hx, hρ _ _ hy, this, e1]
theorem QL.sliceH {x y : Operand} {a : Option Addr} {xs : List α} {n cap : Nat} {kk : IntKind} {h : Int} {w0 : World} (hT : OkTab P T) (hg : gate ops e g = some true) (hd : Nat.blt d N = true)
    (hx : ev e x = some (.slice a n cap)) (hy : ev e y = some (.int kk h)) (ht : tget T t = some ti) (htd : ti.desc = .slice el) (he : tget T el = some ei)
    (R : Row s enc w0 a xs) (hn : xs.length = n) (hc : xs.length ≤ cap) (h0 : 0 ≤ h ∧ h ≤ xs.length)
    (k : Row s enc w0 a (xs.take h.toNat) → (xs.take h.toNat).length ≤ cap → QL P N C ops.toArray l ((d, .slice a (xs.take h.toNat).length cap) :: e) Q) : QL P N C ops.toArray (⟨some d, .slice t x none (some y) none, tt, ps, af, g⟩ :: l) e Q := by
  refine QL.step hg hd ?_ (k (R.take _) (by rw [List.length_take]; omega))
  refine Yields.in ?_
  intro ρ hρ w'
  have := run_sliceH (P := P) hT (t := t) (ao := a) (n := n) (cap := cap) (k := kk) (h := h) ht htd he (by omega) w'
  have e1 : (xs.take h.toNat).length = h.toNat := by rw [List.length_take]; omega
  simp [execOp, hρ _ _ hx, hρ _ _ hy, this, e1]
end rules
end Go.Lt
