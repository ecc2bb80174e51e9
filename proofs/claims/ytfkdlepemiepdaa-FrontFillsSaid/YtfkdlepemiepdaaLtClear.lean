/- 'clear' of the tail of a row of one's own; parts of such rows; lists by places. Generic over the program. No conditions. -/
import Derived.Test.YtfkdlepemiepdaaLtMore2
namespace Go.Lt
open Go.RowKit
set_option linter.unusedVariables false
set_option linter.unusedSimpArgs false

/-- Where the part behind the i-th element begins. -/
def subA (a : Option Addr) (cap i s : Nat) : Option Addr := if cap = i then a else a.map (·.add (i * s))

section rules
variable {P : Program} {N : Nat} {e : Env} {w : World} {Q : Exit → Act → World → Prop} {ops : List Oper} {l : List Oper} {T : Tab}
  {d : Nat} {tt : TypeId} {ps : String} {af : Array Edge} {g : Option (Nat × Bool)} {t : TypeId} {α : Type} {s : Nat} {enc : α → List Value} {B : Nat} {ti ei : TI} {el : TypeId}

theorem WL.effV {op : Op} {v : Value} {w' : Nat → World} (hg : gate ops e g = some true)
    (h : ∀ (ρ : Operand → Value), (∀ x u, ev e x = some u → ρ x = u) → ∀ m, (execOp ρ ⟨none, op, tt, ps, af, g⟩).run P (at' w m) = .ok (.value v) (w' m))
    (k : ∀ m, WL P N ops.toArray l e (w' m) Q) : WL P N ops.toArray (⟨none, op, tt, ps, af, g⟩ :: l) e w Q := by
  refine ⟨fun a m hf => ?_⟩
  unfold wpList
  rw [if_pos (by rw [gate_wanted hf (o := ⟨none, op, tt, ps, af, g⟩) hg])]
  refine .inl ?_
  unfold Oper.wp
  rw [h a.eval (fun x u hx => hf.eval hx) m]
  exact (k m).go _ (w' m).drawn hf

/-- own[h:], as it stands -/
theorem WL.sliceLO {x y : Operand} {a : Option Addr} {n cap : Nat} {kk : IntKind} {h : Int} (hT : OkTab P T) (hg : gate ops e g = some true) (hd : Nat.blt d N = true)
    (hx : ev e x = some (.slice a n cap)) (hy : ev e y = some (.int kk h)) (ht : tget T t = some ti) (htd : ti.desc = .slice el) (he : tget T el = some ei) (hs : ei.size = s) (h0 : 0 ≤ h ∧ h ≤ n)
    (k : WL P N ops.toArray l ((d, .slice (subA a cap h.toNat s) (n - h.toNat) (cap - h.toNat)) :: e) w Q) : WL P N ops.toArray (⟨some d, .slice t x (some y) none none, tt, ps, af, g⟩ :: l) e w Q := by
  refine WL.step hg hd (Yields.in ?_) k
  intro ρ hρ w'
  have := run_sliceL (P := P) hT (t := t) (ao := a) (n := n) (cap := cap) (k := kk) (h := h) ht htd he h0 w'
  rw [hs] at this
  simp [execOp, hρ _ _ hx, hρ _ _ hy, this, subA]
/-- own[:h] -/
theorem WL.sliceHO {x y : Operand} {a : Option Addr} {xs : List α} {n cap : Nat} {kk : IntKind} {h : Int} {wo : World} (hT : OkTab P T) (hE : Enc s enc) (hg : gate ops e g = some true) (hd : Nat.blt d N = true)
    (hx : ev e x = some (.slice a n cap)) (hy : ev e y = some (.int kk h)) (ht : tget T t = some ti) (htd : ti.desc = .slice el) (he : tget T el = some ei)
    (ho : Own s enc el B wo a cap xs) (hwo : Ext wo w) (hn : xs.length = n) (h0 : 0 ≤ h ∧ h ≤ xs.length)
    (k : Own s enc el B w a cap (xs.take h.toNat) → WL P N ops.toArray l ((d, .slice a (xs.take h.toNat).length cap) :: e) w Q) : WL P N ops.toArray (⟨some d, .slice t x none (some y) none, tt, ps, af, g⟩ :: l) e w Q := by
  refine WL.step hg hd (Yields.in ?_) (k ((ho.ext hwo).take hE _))
  intro ρ hρ w'
  have hc := ho.capLe
  have := run_sliceH (P := P) hT (t := t) (ao := a) (n := n) (cap := cap) (k := kk) (h := h) ht htd he (by omega) w'
  have e1 : (xs.take h.toNat).length = h.toNat := by rw [List.length_take]; omega
  simp [execOp, hρ _ _ hx, hρ _ _ hy, this, e1]

theorem zeroCells_eq {z : α} (hE : Enc s enc) (zero : Array Value) (hz : enc z = zero.toList) (n : Nat) : (Builtin.zeroCells zero n).toList = (List.replicate n z).flatMap enc := by
  have hzs : zero.size = s := by have := hE.len z; rw [hz] at this; simpa using this
  have hpos := hE.pos
  simp only [Builtin.zeroCells, Array.toList_map, Array.toList_range]
  apply List.ext_getElem?
  intro q
  by_cases hq : q < n * s
  · have hdiv : q / s < n := by rw [Nat.div_lt_iff_lt_mul hpos]; exact hq
    have hmod : q % s < s := Nat.mod_lt _ hpos
    have h1 := getElem?_flatMap' hE.len (List.replicate n z) (q / s) (q % s) z (by simp [hdiv]) hmod
    have h2 : q / s * s + q % s = q := by rw [Nat.mul_comm]; exact Nat.div_add_mod q s
    rw [h2] at h1
    rw [h1, hz]
    simp [hq, hzs, hmod]
  · have h1 : ((List.replicate n z).flatMap enc).length = n * s := by rw [length_flatMap' hE.len]; simp
    rw [List.getElem?_eq_none (by simp [hzs]; omega), List.getElem?_eq_none (by omega)]

/-- clear(own[i:]) -/
theorem WL.clearT {x : Operand} {a : Option Addr} {cap n i : Nat} {xs : List α} {z : α} {wo w0 : World} (hT : OkTab P T) (hE : Enc s enc) (hg : gate ops e g = some true)
    (hx : ev e x = some (.slice (subA a cap i s) (n - i) (cap - i))) (ht : tget T t = some ti) (htd : ti.desc = .slice el) (he : tget T el = some ei) (hs : ei.size = s) (hz : enc z = ei.zero.cells.toList)
    (ho : Own s enc el B wo a cap xs) (hwo : Ext wo w) (hn : xs.length = n) (hi : i ≤ n) (hB : w0.heap.size = B) (hX : Ext w0 w)
    (k : ∀ w', Own s enc el B w' a cap (xs.take i ++ List.replicate (n - i) z) → Ext w0 w' → Upd B a w w' → WL P N ops.toArray l e w' Q) :
    WL P N ops.toArray (⟨none, .call ⟨.builtin .clear, ⟨[x]⟩, ⟨[t]⟩⟩, tt, ps, af, g⟩ :: l) e w Q := by
  have ho' := ho.ext hwo
  have h1 := run_underlying' (hT.at ht); rw [htd] at h1
  have h3 := run_zeroValue' (hT.at he)
  by_cases h0 : n - i = 0
  · refine WL.effV (v := .tuple #[]) (w' := fun m => at' w m) hg ?_ (fun m => k _ ?_ (hX.at m) ⟨⟨rfl, rfl, rfl, Nat.le_refl _, fun _ _ _ => rfl⟩, fun q hq => (ho'.blk_lt q hq).1⟩)
    · intro ρ hρ m
      have hc : (Builtin.clear_ #[t] tt #[.slice (subA a cap i s) 0 (cap - i)]).run P (at' w m) = .ok (.tuple #[]) (at' w m) := by
        simp only [Builtin.clear_, Sem.run_bind, h1, Result.andThen_ok]
        cases subA a cap i s <;> simp [h1]
      rw [h0] at hx
      simp only [execOp, resolve, invoke, builtin, Sem.run_bind, Sem.run_pure, Result.andThen_ok, List.map_toArray, List.map_cons, List.map_nil, hρ _ _ hx, hc]
    · have : xs.take i ++ List.replicate (n - i) z = xs := by rw [h0, List.take_of_length_le (by omega)]; simp
      rw [this]
      exact ho'.ext ((Ext.refl w).at m)
  · have hO := ho'
    rcases ho'.2 with ⟨g1, g2⟩ | ⟨gb, c', cur, g1, g2, g3, g4, g5, g6, g7⟩
    · omega
    simp only [Value.slice.injEq, true_and] at g1
    obtain ⟨rfl, rfl⟩ := g1
    have hsub : subA (some ⟨gb, 0, none⟩) cap i s = some ⟨gb, i * s, none⟩ := by
      unfold subA; rw [if_neg (by omega)]; simp [Addr_add_none]
    rw [hsub] at hx
    have hzc := zeroCells_eq hE ei.zero.cells hz (n - i)
    have hzl : (Builtin.zeroCells ei.zero.cells (n - i)).toList.length = (n - i) * s := by rw [hzc, length_flatMap' hE.len]; simp
    have hle2 : xs.length * s ≤ cap * s := Nat.mul_le_mul_right s g4
    have hin : i * s + (n - i) * s = xs.length * s := by rw [← Nat.add_mul, hn]; congr 1; omega
    have hone : ∀ u ∈ (Builtin.zeroCells ei.zero.cells (n - i)).toList, u.oneCell' = true := fun u hu => by
      rw [hzc] at hu
      obtain ⟨y, hy, hy2⟩ := List.mem_flatMap.1 hu
      rw [List.eq_of_mem_replicate hy] at hy2
      exact hE.one z u hy2
    refine WL.effV (v := .tuple #[]) (w' := fun m => (at' w m).setRow gb (cur.toList.take (i * s) ++ (Builtin.zeroCells ei.zero.cells (n - i)).toList ++ cur.toList.drop (i * s + (n - i) * s)).toArray) hg ?_ (fun m => ?_)
    · intro ρ hρ m
      have hr := run_storeCells_at P gb (i * s) el (Builtin.zeroCells ei.zero.cells (n - i)).toList 0 cur (at' w m) g3 (by rw [hzl]; omega) hone
      simp only [Nat.add_zero, hzl] at hr
      have hc : (Builtin.clear_ #[t] tt #[.slice (some ⟨gb, i * s, none⟩) (n - i) (cap - i)]).run P (at' w m) = .ok (.tuple #[]) ((at' w m).setRow gb (cur.toList.take (i * s) ++ (Builtin.zeroCells ei.zero.cells (n - i)).toList ++ cur.toList.drop (i * s + (n - i) * s)).toArray) := by
        obtain ⟨q, hq⟩ : ∃ q, n - i = q + 1 := ⟨n - i - 1, by omega⟩
        rw [hq] at hr ⊢
        simp [Builtin.clear_, h1, h3, hr]
      simp only [execOp, resolve, invoke, builtin, Sem.run_bind, Sem.run_pure, Result.andThen_ok, List.map_toArray, List.map_cons, List.map_nil, hρ _ _ hx, hc]
    · have hU : Upd B (some ⟨gb, 0, none⟩) w ((at' w m).setRow gb (cur.toList.take (i * s) ++ (Builtin.zeroCells ei.zero.cells (n - i)).toList ++ cur.toList.drop (i * s + (n - i) * s)).toArray) :=
        ⟨⟨rfl, rfl, rfl, by simp [World.setRow], fun k hk hne => setRow_other (at' w m) gb k _ (fun hh => hne (by rw [hh]; rfl))⟩, fun k hk => (hO.blk_lt k hk).1⟩
      have hlen : (xs.take i ++ List.replicate (n - i) z).length = xs.length := by rw [List.length_append, List.length_take, List.length_replicate]; omega
      refine k _ ?_ (hU.ext hX (Nat.le_of_eq hB)) hU
      refine ⟨by rw [length_flatMap' hE.len], .inr ⟨gb, cap, _, by rw [hlen], g2, setRow_heap (at' w m) gb cur _ el _ g3, by rw [hlen]; exact g4, g5, ?_, ?_⟩⟩
      · have := cur.size
        simp only [List.size_toArray, List.length_append, List.length_take, List.length_drop, Array.length_toList, hzl, g6]
        omega
      · simp only [hlen]
        rw [splice_take cur.toList _ (i * s) ((n - i) * s) (xs.length * s) hzl (by omega) (by simp [g6]; exact hle2), g7, hzc, List.flatMap_append]
        rw [List.drop_eq_nil_of_le (by rw [length_flatMap' hE.len]; omega), List.append_nil]
        congr 1
        have e1 : xs.flatMap enc = (xs.take i).flatMap enc ++ (xs.drop i).flatMap enc := by rw [← List.flatMap_append, List.take_append_drop]
        rw [e1, List.take_left' (by rw [length_flatMap' hE.len, List.length_take]; congr 1; omega)]
end rules

/-- A row beside the one that is written. -/
theorem Upd.apart {β : Type} {t : Nat} {enc' : β → List Value} {el' : TypeId} {B B' : Nat} {c a' ao : Option Addr} {co : Nat} {L : List β} {w w' : World} (hU : Upd B c w w') (hF : blk a' = blk c ∨ ∃ k, blk a' = some k ∧ w.heap.size ≤ k)
    (ho : Own t enc' el' B' w ao co L) (hne : blk ao = none ∨ blk ao ≠ blk c) : Own t enc' el' B' w' ao co L ∧ (blk ao = none ∨ blk ao ≠ blk a') := by
  refine ⟨hU.own ho hne, ?_⟩
  rcases hne with h | h
  · exact .inl h
  · refine .inr fun he => ?_
    rcases hF with hF | ⟨k, hk, hle⟩
    · exact h (he.trans hF)
    · have := (ho.blk_lt k (he.trans hk)).2
      omega
theorem Upd.trans {B : Nat} {a : Option Addr} {w w1 w2 : World} (h : Upd B a w w1) (k : Upd B a w1 w2) : Upd B a w w2 :=
  ⟨⟨k.grown.os.trans h.grown.os, k.grown.tape.trans h.grown.tape, k.grown.output.trans h.grown.output, Nat.le_trans h.grown.size k.grown.size, fun q hq hne => (k.grown.block q (Nat.lt_of_lt_of_le hq h.grown.size) hne).trans (h.grown.block q hq hne)⟩, h.from'⟩
/-- A row that is newer than a block lies apart from it. -/
theorem Own.newer {β : Type} {t : Nat} {enc' : β → List Value} {el' : TypeId} {B gb o : Nat} {ao : Option Addr} {co : Nat} {L : List β} {w : World} (ho : Own t enc' el' B w ao co L) (h : gb < B) : blk ao = none ∨ blk ao ≠ blk (some ⟨gb, o, none⟩) := by
  cases hb : blk ao with
  | none => exact .inl rfl
  | some k => exact .inr fun he => by have := (ho.blk_lt k hb).1; simp only [blk, Option.map_some, Option.some.injEq] at he; omega

/-! ### Lists by places -/
def tab {α : Type} (m : Nat) (f : Nat → α) : List α := (List.range m).map f
theorem tab_len {α : Type} (m : Nat) (f : Nat → α) : (tab m f).length = m := by simp [tab]
theorem tab_get {α : Type} {m k : Nat} (f : Nat → α) (h : k < m) : (tab m f)[k]? = some (f k) := by simp [tab, h]
theorem tab_getD {α : Type} {m k : Nat} (f : Nat → α) (d : α) (h : k < m) : (tab m f).getD k d = f k := getD_of (tab_get f h)
theorem tab_congr {α : Type} {m : Nat} {f g : Nat → α} (h : ∀ u, u < m → f u = g u) : tab m f = tab m g := List.map_congr_left (fun u hu => h u (List.mem_range.1 hu))
theorem tab_set {α : Type} {m k : Nat} {f g : Nat → α} {x : α} (h : ∀ u, u < m → g u = if u = k then x else f u) : (tab m f).set k x = tab m g := by
  apply List.ext_getElem?
  intro i
  by_cases hi : i < m
  · rw [tab_get g hi, List.getElem?_set, h i hi]
    by_cases hik : k = i
    · subst hik; rw [if_pos rfl, tab_len, if_pos hi, if_pos rfl]
    · rw [if_neg hik, tab_get f hi, if_neg (fun h => hik h.symm)]
  · rw [List.getElem?_eq_none (by rw [List.length_set, tab_len]; omega), List.getElem?_eq_none (by rw [tab_len]; omega)]
theorem tab_rep {α : Type} (m : Nat) (x : α) : List.replicate m x = tab m (fun _ => x) := by
  apply List.ext_getElem (by simp [tab])
  intro i h1 h2
  simp [tab]
theorem tab_eq {α : Type} {m : Nat} {f : Nat → α} {l : List α} (hl : l.length = m) (h : ∀ u x, l[u]? = some x → f u = x) : l = tab m f := by
  apply List.ext_getElem?
  intro i
  by_cases hi : i < m
  · obtain ⟨x, hx⟩ := getI l (show i < l.length by omega)
    rw [hx, tab_get f hi, h i x hx]
  · rw [List.getElem?_eq_none (by omega), List.getElem?_eq_none (by rw [tab_len]; omega)]
theorem tab_succ {α : Type} (m : Nat) (f : Nat → α) : tab (m + 1) f = tab m f ++ [f m] := by simp [tab, List.range_succ]
theorem tab_inj {α : Type} {m : Nat} {f g : Nat → α} (h : tab m f = tab m g) : ∀ u, u < m → f u = g u := fun u hu => by
  have := tab_get f hu
  rw [h, tab_get g hu] at this
  exact (Option.some.inj this).symm
end Go.Lt
